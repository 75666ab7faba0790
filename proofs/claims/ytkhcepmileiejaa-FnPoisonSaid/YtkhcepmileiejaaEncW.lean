/- The encoder of words, and a word's symbols: the walks of the program. -/
import Derived.Test.YtkhcepmileiejaaCodeW
set_option linter.unusedSimpArgs false
set_option linter.unusedVariables false
namespace Go.Proofs.Ytkhcepmileiejaa
open Go.RowKit Go.ChangeShapes Go.WideShapes Go.ChangeAt Go.Joins Go.Deep
open Go.ChangeMaps (open_string shut_string)
/-- A word of the call's own. -/
def FreshW (w : World) (ws : List Nat) (e : Ending) (w' : World) : Prop := Fresh w 3 1 ws.length ((ints ws).map (.int .i64)) e w'
theorem impl_GfInv_is (a : Nat) (v : Nat) (w : World) (hv : ginv a = v) (ha : a < 16) :
    Calls Try.prog 100 #[.int .i64 a] w fun e w' => e = .returned (.int .i64 (v : Nat)) ∧ w = w' := by rw [← hv]; exact impl_GfInv a w ha
set_option maxRecDepth 100000 in
set_option maxHeartbeats 2000000 in
theorem impl_EncodeSymbols (a : Option Addr) (c : Nat) (ds : List Nat) (w : World) (hS : Sym ds) (hl : ds.length = 8) (ha : IsInts .i64 w a 8 c (ints ds)) :
    Calls Try.prog 81 #[.slice a 8 c] w (Fresh w 3 1 11 ((ints (encS ds)).map (.int .i64))) := by
  obtain ⟨i0_int, hi_int, hz0_int, hz1_int, hz2_int⟩ := info_parts info_int
  have HA := hide ha; have HS := hide hS; have HL := hide hl
  have hok := symOk_ints hS hl
  have hc := ha.2.1; have hm : c ≤ 9223372036854775807 := ha.2.2.1
  clear ha hS hl
  go_enter Try.func81, Try.ntmps81
  go_wp2_with fail
  refine (impl_SymbolsOk _ _ _ _ _ true _ hok HA.out).mono ?_
  rintro e w1 ⟨rfl, rfl⟩
  go_wp2_with (first
    | (at_make; refine wpList_make_full _ rfl _ _ 25 rfl w.heap.size 3 i0_int _ 1 Try.underlying25 hi_int hz0_int hz1_int _ _ _ _ 3 rfl rfl rfl rfl (by rw [hz2_int]; omega) (by unfold maxLen; omega) (Nat.le_refl _) ?_; intro w0 hown hg; have hb0 : Below w.heap.size w w0 := (Below.refl _ _).grown hg (Nat.le_refl _) (fun k h => by cases h); have HO0 := hide hown; have HA0 := hide (HA.out.below hb0 (Nat.le_refl _)).2.2.2.2; have hs0 := hb0.size; clear hown hg)
    | (at_builtin; refine wpList_append_any rfl _ _ 25 rfl w.heap.size 3 i0_int (.int .i64 0) 1 8 Try.underlying25 hi_int hz0_int hz1_int hz2_int rfl (by decide) _ _ _ rfl HO0.out _ _ _ _ rfl (by rw [List.length_map, ints_len, HL.out]) HA0.out (map_ones _) ?c3p ?c4p ?c5p ?_))
  case c3p => unfold maxLen; omega
  case c4p => omega
  case c5p => omega
  intro v' wp hownp hgp
  obtain ⟨ap, cp, rfl⟩ := own_shape hownp
  have hBp : Below w.heap.size w wp := below_grown hb0 HO0.out (by omega) (by omega) hgp
  have hsp := hBp.size
  replace hownp : wp.ownsRow w.heap.size 3 1 (.slice ap 11 cp) 11 ((ints (data0 ds)).map (.int .i64)) := by
    have e : (madeCells #[Value.int .i64 0] 3).toList ++ (ints ds).map (Value.int .i64) = (ints (data0 ds)).map (.int .i64) := by
      rw [toList_madeCells_one]; simp [ints, data0, List.replicate]
    exact e ▸ hownp
  have HP := hide hownp
  have hd0 := hide (show (data0 ds).length = 11 by simp [data0, HL.out])
  have hds := hide (data0_sym HS.out)
  have HAp := hide (isInts_own HP.out (ints_wf hds.out))
  clear hownp hgp HO0 HA0
  go_wp2_with fail
  refine (impl_Syndromes _ _ (data0 ds) _ hds.out hd0.out HAp.out).mono ?_
  rintro e w1 ⟨a1, c1, rfl, o1, h1⟩
  obtain ⟨g, rfl, hg, h3, hc1, hc2⟩ := is3_of o1
  obtain ⟨hgl, e0', e1', e2'⟩ := h3
  have e0 : w1.cell? ⟨g, 0, none⟩ = some (.int .i64 (syn (data0 ds) 0 : Nat)) := e0'
  have e1 : w1.cell? ⟨g, 1, none⟩ = some (.int .i64 (syn (data0 ds) 1 : Nat)) := e1'
  have e2 : w1.cell? ⟨g, 2, none⟩ = some (.int .i64 (syn (data0 ds) 2 : Nat)) := e2'
  clear e0' e1' e2'
  have hs := h1.size
  have HX := hide (own_below HP.out h1 (fun k hk => (HP.out.lt k hk).2))
  have HB1 := hide (bthen hBp h1 (by omega))
  have t0 := syn_lt hds.out 0; have t1 := syn_lt hds.out 1; have t2 := syn_lt hds.out 2
  have HD := hide (enc_is HS.out HL.out)
  unfold encI at HD
  generalize syn (data0 ds) 0 = s0 at *
  generalize syn (data0 ds) 1 = s1 at *
  generalize syn (data0 ds) 2 = s2 at *
  have HPL := hide (fun k hk => (HP.out.lt k hk).2)
  clear HP HAp o1 h1
  have hx := i64_xor s0 s1 (by omega) (by omega); have hy := i64_xor s0 s2 (by omega) (by omega)
  have x16 := xor_lt t0 t1; have y16 := xor_lt t0 t2
  unfold chk0 chk1 chk2 at HD
  generalize s0 ^^^ s1 = x at *
  generalize s0 ^^^ s2 = y at *
  have m16 := gm_lt (show 2 < 16 by omega) x16; have n16 := gm_lt (show 5 < 16 by omega) y16
  have p16 := gm_lt (show 3 < 16 by omega) y16; have q16 := gm_lt (show 5 < 16 by omega) x16
  obtain ⟨m, hm1⟩ : ∃ m, gm 2 x = m := ⟨_, rfl⟩
  obtain ⟨n, hn1⟩ : ∃ n, gm 5 y = n := ⟨_, rfl⟩
  obtain ⟨p, hp1⟩ : ∃ p, gm 3 y = p := ⟨_, rfl⟩
  obtain ⟨q, hq1⟩ : ∃ q, gm 5 x = q := ⟨_, rfl⟩
  rw [hm1, hn1, hp1, hq1] at HD
  rw [hm1] at m16; rw [hn1] at n16; rw [hp1] at p16; rw [hq1] at q16
  have hu := i64_xor m n (by omega) (by omega); have hu2 := i64_xor p q (by omega) (by omega)
  have u16 := xor_lt m16 n16; have v16 := xor_lt p16 q16
  generalize m ^^^ n = u at *
  generalize p ^^^ q = v at *
  have k16 := gm_lt u16 (show 13 < 16 by omega); have l16 := gm_lt v16 (show 13 < 16 by omega)
  obtain ⟨k, hk1⟩ : ∃ k, gm u 13 = k := ⟨_, rfl⟩
  obtain ⟨l, hl1⟩ : ∃ l, gm v 13 = l := ⟨_, rfl⟩
  rw [hk1, hl1] at HD
  rw [hk1] at k16; rw [hl1] at l16
  have hf := i64_xor s0 k (by omega) (by omega)
  have f16 := xor_lt t0 k16
  have hff := i64_xor (s0 ^^^ k) l (by omega) (by omega)
  generalize s0 ^^^ k = f at *
  generalize f ^^^ l = z at *
  have HM := hide hm1; have HN := hide hn1; have HPP := hide hp1; have HQ := hide hq1; have HK := hide hk1; have HLl := hide hl1
  have X16 := hide x16; have Y16 := hide y16; have U16 := hide u16; have V16 := hide v16
  clear hm1 hn1 hp1 hq1 hk1 hl1 x16 y16 u16 v16 m16 n16 p16 q16
  obtain ⟨gp, hgp, hgp1, hgp2, hcell⟩ := own_some HX.out (by omega)
  subst hgp
  have hgw := HPL.out gp rfl
  have hne : ¬ g = gp := by omega
  have hne2 : ¬ gp = g := by omega
  have c0 := (hcell 0 (by omega)).trans (show _ = some (Value.int .i64 0) from rfl)
  have c1 := (hcell 1 (by omega)).trans (show _ = some (Value.int .i64 0) from rfl)
  have c2 := (hcell 2 (by omega)).trans (show _ = some (Value.int .i64 0) from rfl)
  have cf := fun j => HX.out.frozenAt j
  clear hcell
  go_wp2_with fail
  go_quiet (fail)
  go_wp2_with fail
  refine (impl_GfInv_is 4 13 _ ginv4 (by omega)).mono ?_
  rintro e w2 ⟨rfl, rfl⟩
  go_wp2_with fail
  refine (impl_GfMul_is 2 x m _ HM.out (by omega) X16.out).mono ?_
  rintro e w2 ⟨rfl, rfl⟩
  go_wp2_with fail
  refine (impl_GfMul_is 5 y n _ HN.out (by omega) Y16.out).mono ?_
  rintro e w2 ⟨rfl, rfl⟩
  go_wp2_with fail
  refine (impl_GfMul_is u 13 k _ HK.out U16.out (by omega)).mono ?_
  rintro e w2 ⟨rfl, rfl⟩
  go_wp2_with fail
  refine (impl_GfMul_is 3 y p _ HPP.out (by omega) Y16.out).mono ?_
  rintro e w2 ⟨rfl, rfl⟩
  go_wp2_with fail
  refine (impl_GfMul_is 5 x q _ HQ.out (by omega) X16.out).mono ?_
  rintro e w2 ⟨rfl, rfl⟩
  go_wp2_with fail
  refine (impl_GfMul_is v 13 l _ HLl.out V16.out (by omega)).mono ?_
  rintro e w2 ⟨rfl, rfl⟩
  go_wp2_with fail
  have hst := ((((own_below HX.out (bdrawn (Below.refl w1.heap.size w1) nq) (fun k hk => (HX.out.lt k hk).2)).stored 1 (.int .i64 (k : Nat))).1.stored 2 (.int .i64 (l : Nat))).1.stored 0 (.int .i64 (z : Nat))).1
  have e3 : (((((ints (data0 ds)).map (Value.int .i64)).set 1 (.int .i64 (k : Nat))).set 2 (.int .i64 (l : Nat))).set 0 (.int .i64 (z : Nat))) = (ints (encS ds)).map (.int .i64) := by
    rw [← HD.out]; simp [ints, data0]
  rw [e3] at hst
  have HST := hide hst
  have HBF := hide (bdrawn HB1.out nq)
  have hsz : w.heap.size ≤ (w1.drewN nq).heap.size := HBF.out.size
  have e0W : (w1.drewN nq).cell? ⟨g, 0, none⟩ = some (.int .i64 (s0 : Nat)) := e0
  have c0W : (w1.drewN nq).cell? ⟨gp, 0, none⟩ = some (.int .i64 0) := c0
  have c1W : (w1.drewN nq).cell? ⟨gp, 1, none⟩ = some (.int .i64 0) := c1
  have c2W : (w1.drewN nq).cell? ⟨gp, 2, none⟩ = some (.int .i64 0) := c2
  have cfW : ∀ j, (w1.drewN nq).frozen? ⟨gp, j, none⟩ = false := cf
  clear hst e3
  generalize w1.drewN nq = W at *
  go_region_law (fail)
  all_goals
    go_wp2_with fail
    go_ret
    exact ⟨_, _, rfl, HST.out.drew, by have := HBF.out; go_grown⟩
end Go.Proofs.Ytkhcepmileiejaa
