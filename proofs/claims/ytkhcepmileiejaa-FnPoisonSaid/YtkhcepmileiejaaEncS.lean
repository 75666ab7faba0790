/- The encoder of words: the walk of the reference. -/
import Derived.Test.YtkhcepmileiejaaEncW
set_option linter.unusedSimpArgs false
set_option linter.unusedVariables false
namespace Go.Proofs.Ytkhcepmileiejaa
open Go.RowKit Go.ChangeShapes Go.WideShapes Go.ChangeAt Go.Joins Go.Deep
open Go.ChangeMaps (open_string shut_string)
theorem ints_set (ws : List Nat) (k v : Nat) : ((ints ws).map (Value.int .i64)).set k (.int .i64 (v : Nat)) = (ints (ws.set k v)).map (.int .i64) := by
  unfold ints; rw [List.map_map, List.map_map, List.map_set]; rfl
theorem ints_at {ws : List Nat} {k : Nat} (h : k < ws.length) : ((ints ws).map (Value.int .i64))[k]? = some (.int .i64 (ws.getD k 0 : Nat)) := by
  rw [List.getElem?_map, ints_get h]; rfl
/-- A factor more of the generator, coefficient by coefficient. -/
def nx (b : List Nat) (c : Nat) : Nat → List Nat
  | 0 => List.replicate (b.length + 1) 0
  | i + 1 => turn (turn (nx b c i) (i + 1) (b.getD i 0)) i (gm (b.getD i 0) c)
def byJ : Nat → List Nat
  | 0 => []
  | 1 => [1, 1]
  | 2 => [2, 3, 1]
  | _ => [8, 14, 7, 1]
theorem nx_len (b : List Nat) (c : Nat) : ∀ i, (nx b c i).length = b.length + 1
  | 0 => by simp [nx]
  | i + 1 => by simp only [nx, turn_len, nx_len b c i]
theorem nx_sym {b : List Nat} {c : Nat} (h : Sym b) (hc : c < 16) : ∀ i, Sym (nx b c i)
  | 0 => fun x hx => by simp [nx] at hx; omega
  | i + 1 => turn_sym (turn_sym (nx_sym h hc i) (h.at i)) (gm_lt (h.at i) hc)
theorem byJ_next {j : Nat} (h1 : 1 ≤ j) (h2 : j < 3) : byJ (j + 1) = nx (byJ j) (gp 2 j) (byJ j).length := by
  have : j = 1 ∨ j = 2 := by omega
  rcases this with rfl | rfl <;> decide
theorem byJ_len {j : Nat} (h1 : 1 ≤ j) (h2 : j ≤ 3) : (byJ j).length = j + 1 := by
  have : j = 1 ∨ j = 2 ∨ j = 3 := by omega
  rcases this with rfl | rfl | rfl <;> rfl
theorem byJ_sym {j : Nat} (h1 : 1 ≤ j) (h2 : j ≤ 3) : Sym (byJ j) := by
  have : j = 1 ∨ j = 2 ∨ j = 3 := by omega
  rcases this with rfl | rfl | rfl <;> (intro x hx; simp [byJ] at hx; omega)
theorem own_lit (w : World) (base : Nat) (e : TypeId) (cs : Array Value) (n : Nat) (hn : cs.size = n) (hm : n ≤ maxLen) (hb : base ≤ w.heap.size) : (w.alloc (.cells cs e)).ownsRow base e 1 (.slice (some ⟨w.heap.size, 0, none⟩) n n) n cs.toList :=
  ⟨by simp [hn], .inr ⟨w.heap.size, n, cs, rfl, hb, heap_alloc_new w _, Nat.le_refl _, hm, by omega, by rw [List.take_of_length_le (by simp [hn])]⟩⟩
set_option maxRecDepth 100000 in
set_option maxHeartbeats 2000000 in
theorem spec_EncodeSymbols (a : Option Addr) (c : Nat) (ds : List Nat) (w : World) (hS : Sym ds) (hl : ds.length = 8) (ha : IsInts .i64 w a 8 c (ints ds)) :
    Calls Try.prog 78 #[.slice a 8 c] w (Fresh w 3 1 11 ((ints (encS ds)).map (.int .i64))) := by
  obtain ⟨i0_int, hi_int, hz0_int, hz1_int, hz2_int⟩ := info_parts info_int
  have HA := hide ha; have HS := hide hS; have HL := hide hl
  have hok := symOk_ints hS hl
  have hc := ha.2.1; have hm : c ≤ 9223372036854775807 := ha.2.2.1
  clear ha hS hl
  go_enter Try.func78, Try.ntmps78
  go_wp2_with fail
  refine (spec_SymbolsOk _ _ _ _ _ true _ hok HA.out).mono ?_
  rintro e w1 ⟨rfl, rfl⟩
  go_wp2_with (first
    | (at_make; refine wpList_make_full _ rfl _ _ 25 rfl w.heap.size 3 i0_int _ 1 Try.underlying25 hi_int hz0_int hz1_int _ _ _ _ 3 rfl rfl rfl rfl (by rw [hz2_int]; omega) (by unfold maxLen; omega) (Nat.le_refl _) ?_; intro w0 hown hg; have hb0 : Below w.heap.size w w0 := (Below.refl _ _).grown hg (Nat.le_refl _) (fun k h => by cases h); have HO0 := hide hown; have HA0 := hide (HA.out.below hb0 (Nat.le_refl _)).2.2.2.2; have hs0 := hb0.size; clear hown hg)
    | (at_builtin; refine wpList_append_any rfl _ _ 25 rfl w.heap.size 3 i0_int (.int .i64 0) 1 8 Try.underlying25 hi_int hz0_int hz1_int hz2_int rfl (by decide) _ _ _ rfl HO0.out _ _ _ _ rfl (by rw [List.length_map, ints_len, HL.out]) HA0.out (map_ones _) ?c3p ?c4p ?c5p ?_))
  case c3p => unfold maxLen; omega
  case c4p => omega
  case c5p => omega
  intro v' wp hownp hgp
  obtain ⟨ap, cp, rfl⟩ := own_shape hownp
  have hBp : Below w.heap.size w wp := below_grown hb0 HO0.out (by omega) (by omega) hgp
  have hsp := hBp.size
  replace hownp : wp.ownsRow w.heap.size 3 1 (.slice ap 11 cp) 11 ((ints (data0 ds)).map (.int .i64)) := by
    have e : (madeCells #[Value.int .i64 0] 3).toList ++ (ints ds).map (Value.int .i64) = (ints (data0 ds)).map (.int .i64) := by
      rw [toList_madeCells_one]; simp [ints, data0, List.replicate]
    exact e ▸ hownp
  have HP := hide hownp
  have hd0 := hide (show (data0 ds).length = 11 by simp [data0, HL.out])
  have hds := hide (data0_sym HS.out)
  have HAp := hide (isInts_own HP.out (ints_wf hds.out))
  clear hownp hgp HO0 HA0
  have HBp := hide hBp
  clear hBp hb0 HAp
  have hby0 := own_lit wp w.heap.size 3 #[.int .i64 1, .int .i64 1] 2 rfl (by decide) (by omega)
  have hbl0 : Below wp.heap.size wp (wp.alloc (.cells #[.int .i64 1, .int .i64 1] 3)) := Below.alloc (Below.refl _ _) (Nat.le_refl _) _
  go_wp2_with fail
  go_loopw [4, 5] (fun vb vj wr => ∃ (j : Nat) (ab : Option Addr) (cb : Nat), 1 ≤ j ∧ j ≤ 3 ∧ vj = .int .i64 j ∧ vb = .slice ab (j + 1) cb ∧ Below wp.heap.size wp wr ∧ wr.ownsRow w.heap.size 3 1 (.slice ab (j + 1) cb) (j + 1) ((ints (byJ j)).map (.int .i64))) (fun _ vj _ => 3 - (intOf vj).toNat)
  case atStart => exact ⟨1, _, _, by omega, by omega, rfl, rfl, hbl0, hby0⟩
  case round =>
    clear hby0 hbl0
    obtain ⟨j, ab, cb, hj1, hj2, rfl, rfl, hB, hown⟩ := hrel
    obtain ⟨wo, hwo⟩ : ∃ wo, wo = wr := ⟨_, rfl⟩
    subst hwo
    have HO := hide hown
    have hBS := hB.size
    obtain ⟨gb, rfl, hgb1, hgb2, hbc⟩ := own_some hown (by omega)
    have hcap := own_caps hown
    have hcb1 : j + 1 ≤ cb := hcap.1
    have hcb2 : cb ≤ 9223372036854775807 := hcap.2
    clear hown hcap
    by_cases hlt : j < 3
    · have h1 : (j : Int) < 3 := by omega
      have HBL := hide (byJ_len hj1 (by omega)); have HBS := hide (byJ_sym hj1 (show j ≤ 3 by omega)); have HBN := hide (byJ_next hj1 hlt)
      have HBC := hide (fun i (hi : i < j + 1) => (hbc i (by omega)).trans (ints_at (ws := byJ j) (by rw [HBL.out]; exact hi)))
      have HC := hide (gp_lt (show 2 < 16 by omega) j)
      obtain ⟨cc, hcc⟩ : ∃ cc, gp 2 j = cc := ⟨_, rfl⟩
      have HCC := hide hcc
      rw [hcc] at HC HBN
      clear hbc hcc
      generalize byJ j = bb at *
      go_wp2_with (at_make; refine wpList_make_full _ rfl _ _ 25 rfl wo.heap.size 3 i0_int _ 1 Try.underlying25 hi_int hz0_int hz1_int _ _ _ _ (j + 1 + 1) rfl rfl rfl rfl (by rw [hz2_int]; omega) (by unfold maxLen; omega) (Nat.le_refl _) ?_; intro w0 hown hg; have hb0 : Below wo.heap.size wo w0 := (Below.refl _ _).grown hg (Nat.le_refl _) (fun k h => by cases h))
      go_loopw [7] (fun vi wi => ∃ i : Nat, i ≤ j + 1 ∧ vi = .int .i64 i ∧ Below wo.heap.size wo wi ∧ wi.ownsRow wo.heap.size 3 1 (.slice (some ⟨wo.heap.size, 0, none⟩) (j + 1 + 1) (j + 1 + 1)) (j + 1 + 1) ((ints (nx bb cc i)).map (.int .i64))) (fun vi _ => (j + 1) - (intOf vi).toNat)
      case atStart => exact ⟨0, by omega, rfl, hb0, by
        have h2 := hown
        rw [Nat.mul_one, show (Value.int .i64 0).cells = #[.int .i64 0] from rfl, toList_madeCells_one] at h2
        simp only [nx, HBL.out]
        simpa [ints] using h2⟩
      case round =>
        clear hown hg hb0
        obtain ⟨i, hi, rfl, hBi, hown⟩ := hrel
        have hsi := hBi.size
        by_cases hlt2 : i < j + 1
        · have i0 : (0 : Int) ≤ (i : Int) := by omega
          have i1 : (i : Int) < (j : Int) + 1 := by omega
          have i2 : (i : Int) + 1 < (j : Int) + 1 + 1 := by omega
          have hnl := nx_len bb cc i
          rw [HBL.out] at hnl
          have b16 := HBS.out.at i
          have s16 := (nx_sym HBS.out HC.out i).at (i + 1)
          have e0 := (hBi.cell (p := ⟨gb, i, none⟩) hgb2).trans (HBC.out i hlt2)
          have e1 := (hown.cellAt (i + 1) (by omega)).trans (ints_at (ws := nx bb cc i) (k := i + 1) (by omega))
          have ef := fun k => hown.frozenAt k
          have hwi : IntKind.i64.wrap ((i : Int) + 1) = (i : Int) + 1 := IntWalk.i64_in _ (by omega)
          have i3 : (0 : Int) ≤ (i : Int) + 1 := by omega
          have i4 : (i : Int) < (j : Int) + 1 + 1 := by omega
          have hnb : ¬ gb = wo.heap.size := by omega
          have hnb2 : ¬ wo.heap.size = gb := by omega
          have HX1 := hide (i64_xor ((nx bb cc i).getD (i + 1) 0) (bb.getD i 0) (by omega) (by omega))
          have HT16 := hide ((turn_sym (nx_sym HBS.out HC.out i) b16 (p := i + 1)).at i)
          have HNX : Hid (nx bb cc (i + 1) = turn (turn (nx bb cc i) (i + 1) (bb.getD i 0)) i (gm (bb.getD i 0) cc)) := hide rfl
          have HTL := hide (show (turn (nx bb cc i) (i + 1) (bb.getD i 0)).length = j + 1 + 1 by rw [turn_len]; exact hnl)
          have hst := (hown.stored (i + 1) (.int .i64 ((nx bb cc i).getD (i + 1) 0 ^^^ bb.getD i 0 : Nat))).1
          rw [ints_set, show (nx bb cc i).set (i + 1) ((nx bb cc i).getD (i + 1) 0 ^^^ bb.getD i 0) = turn (nx bb cc i) (i + 1) (bb.getD i 0) from rfl] at hst
          obtain ⟨z0, hz0⟩ : ∃ z0, (nx bb cc i).getD (i + 1) 0 = z0 := ⟨_, rfl⟩
          obtain ⟨zb, hzb⟩ : ∃ zb, bb.getD i 0 = zb := ⟨_, rfl⟩
          rw [hz0] at e1
          rw [hzb] at e0 b16
          rw [hz0, hzb] at HX1 hst
          rw [hzb] at HT16 HNX HTL
          have HW := hide (show Below wo.heap.size wo (wr.setCell ⟨wo.heap.size, i + 1, none⟩ (.int .i64 (bits .xor .i64 (z0 : Nat) (zb : Nat)))).drew ∧ (wr.setCell ⟨wo.heap.size, i + 1, none⟩ (.int .i64 (bits .xor .i64 (z0 : Nat) (zb : Nat)))).drew.ownsRow wo.heap.size 3 1 (.slice (some ⟨wo.heap.size, 0, none⟩) (j + 1 + 1) (j + 1 + 1)) (j + 1 + 1) ((ints (turn (nx bb cc i) (i + 1) zb)).map (.int .i64)) by
            rw [HX1.out]; exact ⟨(hBi.setCell (Nat.le_refl _) _).drew, hst.drew⟩)
          have B16 := hide b16
          clear hst hown hz0 s16 b16 hnl
          go_wp2_with fail
          go_region_law (fail)
          all_goals
            generalize (wr.setCell ⟨wo.heap.size, i + 1, none⟩ (.int .i64 (bits .xor .i64 (z0 : Nat) (zb : Nat)))).drew = W at HW ⊢
            have d0 : W.cell? ⟨gb, i, none⟩ = some (.int .i64 (zb : Nat)) := (HW.out.1.cell (p := ⟨gb, i, none⟩) hgb2).trans (by have := HBC.out i hlt2; rw [hzb] at this; exact this)
            have d1 := (HW.out.2.cellAt i (by omega)).trans (ints_at (ws := turn (nx bb cc i) (i + 1) zb) (k := i) (by rw [HTL.out]; omega))
            have df := fun k => HW.out.2.frozenAt k
            have hst := (HW.out.2.stored i (.int .i64 ((turn (nx bb cc i) (i + 1) zb).getD i 0 ^^^ gm zb cc : Nat))).1
            have g16 := gm_lt B16.out HC.out
            have HX2 := hide (i64_xor ((turn (nx bb cc i) (i + 1) zb).getD i 0) (gm zb cc) (by have := HT16.out; omega) (by omega))
            rw [ints_set, show (turn (nx bb cc i) (i + 1) zb).set i ((turn (nx bb cc i) (i + 1) zb).getD i 0 ^^^ gm zb cc) = nx bb cc (i + 1) by rw [HNX.out]; rfl] at hst
            obtain ⟨z1, hz1⟩ : ∃ z1, (turn (nx bb cc i) (i + 1) zb).getD i 0 = z1 := ⟨_, rfl⟩
            obtain ⟨zp, hzp⟩ : ∃ zp, gm zb cc = zp := ⟨_, rfl⟩
            rw [hz1] at d1
            rw [hz1, hzp] at HX2 hst
            have HZP := hide hzp; have HST := hide hst
            have HBW := hide HW.out.1
            clear hst hz1 hzp g16 HW
            go_wp2_with fail
            go_region_law (first | (go_simp; go_at_call 98; refine (spec_GfPow_is 2 j _ cc _ rfl HCC.out (by omega) (by omega)).mono ?_; rintro e w1 ⟨rfl, rfl⟩) | (go_simp; go_at_call 97; refine (spec_GfMul_is zb cc zp _ HZP.out B16.out HC.out).mono ?_; rintro e w1 ⟨rfl, rfl⟩))
            all_goals
              go_wp2
              go_roundw
              case rel => exact ⟨i + 1, by omega, by go_num, (HBW.out.setCell (Nat.le_refl _) _).drew, by rw [HX2.out]; exact HST.out.drew⟩
              case measure => simp [intOf]; omega
        · obtain rfl : i = j + 1 := by omega
          have HOw := hide hown
          clear hown
          go_wp2_with fail
          go_roundw
          case rel => exact ⟨j + 1, some ⟨wo.heap.size, 0, none⟩, j + 1 + 1, by omega, by omega, by go_num, rfl, bthen hB hBi (by omega), by rw [HBN.out, HBL.out]; exact own_base HOw.out (by omega)⟩
          case measure => simp [intOf]; omega
    · obtain rfl : j = 3 := by omega
      have HBC := hide (fun i (hi : i < 4) => (hbc i (by omega)).trans (ints_at (ws := gen) (by simpa [gen] using hi)))
      have hB3 : Below wp.heap.size wp (wo.alloc (.cells #[] 3)) := Below.alloc hB (by omega) _
      have HA0 := hide (isInts_own (HP.out) (ints_wf hds.out)).2.2.2.2
      have HA1 := hide (HA0.out.below hB3 (Nat.le_refl _))
      have HO0 := hide (World.ownsRow_made (base := wo.heap.size) (e := 3) (size := 1) wo #[] 0 (Nat.le_refl _) (by decide) rfl)
      have hB4 : Below wo.heap.size wo (wo.alloc (.cells #[] 3)) := Below.alloc (Below.refl _ _) (Nat.le_refl _) _
      clear hbc HO HA0
      go_wp2_with (at_builtin; refine wpList_append_any rfl _ _ 25 rfl wo.heap.size 3 i0_int (.int .i64 0) 1 8 Try.underlying25 hi_int hz0_int hz1_int hz2_int rfl (by decide) _ _ _ rfl (HO0.out) _ _ _ _ rfl (by rw [List.length_map, ints_len, hd0.out]) HA1.out (map_ones _) ?c3r ?c4r ?c5r ?_)
      case c3r => unfold maxLen; omega
      case c4r => omega
      case c5r => (first | go_size | (simp; omega))
      intro v' wr hownr hgr
      obtain ⟨ar, cr, rfl⟩ := own_shape hownr
      have hBr := below_grown hB4 (HO0.out) (by omega) (by go_size) hgr
      have hsr := hgr.size
      (try simp only [World.size_alloc] at hsr)
      have HGr := hide hgr; clear hgr
      (try simp only [List.nil_append, Nat.zero_add] at hownr)
      have HR0 := hide hownr
      have HBr := hide hBr
      clear hownr hBr HGr HO0 HA1 hB4
      obtain ⟨gr, rfl, hgr1, hgr2, _⟩ := own_some HR0.out (by omega)
      have hcapr := own_caps HR0.out
      have hcr1 : 11 ≤ cr := hcapr.1
      have hcr2 : cr ≤ 9223372036854775807 := hcapr.2
      have hnb : ¬ gb = gr := by omega
      have hnb2 : ¬ gr = gb := by omega
      have HINV := hide (fun k (hk : k ≤ 8) => divTo_inv hds.out hd0.out k hk)
      clear hcapr
      go_wp2_with fail
      go_loopw [9] (fun vi wr => ∃ k i : Nat, k + i = 10 ∧ 2 ≤ i ∧ vi = .int .i64 i ∧ Below wo.heap.size wo wr ∧ wr.ownsRow wo.heap.size 3 1 (.slice (some ⟨gr, 0, none⟩) 11 cr) 11 ((ints (divTo (data0 ds) k)).map (.int .i64))) (fun vi _ => (intOf vi).toNat)
      case atStart => exact ⟨0, 10, by omega, by omega, rfl, HBr.out, HR0.out⟩
      case round =>
        obtain ⟨k, i, hki, hi2, rfl, hBk, hown⟩ := hrel
        obtain ⟨wk, hwk⟩ : ∃ wk, wk = wr := ⟨_, rfl⟩
        subst hwk
        by_cases hlt3 : 3 ≤ i
        · obtain ⟨q, hiq⟩ : ∃ q, i = q + 3 := ⟨i - 3, by omega⟩
          obtain ⟨hsy, hln, _, _⟩ := HINV.out k (by omega)
          have hstep : divTo (data0 ds) (k + 1) = divK (divTo (data0 ds) k) i ((divTo (data0 ds) k).getD i 0) 4 := by
            show divStep _ (10 - k) = _; rw [show 10 - k = i by omega]; rfl
          generalize divTo (data0 ds) k = rr at *
          have f16 := hsy.at i
          have HOW := hide hown
          have e0 := (hown.cellAt i (by omega)).trans (ints_at (ws := rr) (k := i) (by omega))
          obtain ⟨f, hf⟩ : ∃ f, rr.getD i 0 = f := ⟨_, rfl⟩
          rw [hf] at hstep f16 e0
          have HST := hide hstep; have HSY := hide hsy; have HLN := hide hln; have HF16 := hide f16
          have i1 : (0 : Int) ≤ (i : Int) := by omega
          have i2 : (i : Int) < 11 := by omega
          have i3 : (3 : Int) ≤ (i : Int) := by omega
          have i5 : (i : Int) - 3 = (q : Int) := by omega
          clear hown hstep hsy hln hf hiq
          go_wp2_with fail
          go_loopw [11, 12] (fun vm _ wi => ∃ m : Nat, m ≤ 4 ∧ vm = .int .i64 m ∧ Below wo.heap.size wo wi ∧ wi.ownsRow wo.heap.size 3 1 (.slice (some ⟨gr, 0, none⟩) 11 cr) 11 ((ints (divK rr i f m)).map (.int .i64))) (fun vm _ _ => 4 - (intOf vm).toNat)
          case atStart => exact ⟨0, by omega, rfl, hBk, HOW.out⟩
          case round =>
            obtain ⟨m, hm4, rfl, hBm, hown⟩ := hrel
            by_cases hlt4 : m < 4
            · have j0 : (0 : Int) ≤ (m : Int) := by omega
              have j1 : (m : Int) < 4 := by omega
              have hdl : (divK rr i f m).length = 11 := by rw [divK_len, HLN.out]
              have hds2 := divK_sym (i := i) HSY.out HF16.out m
              have g16 := gen_lt m
              have e1 := (hown.cellAt (q + m) (by omega)).trans (ints_at (ws := divK rr i f m) (k := q + m) (by omega))
              have ef := fun k => hown.frozenAt k
              have e2 := (hBm.cell (p := ⟨gb, m, none⟩) hgb2).trans (HBC.out m hlt4)
              have z16 := hds2.at (q + m)
              have hnew : divK rr i f (m + 1) = turn (divK rr i f m) (q + m) (gm (gen.getD m 0) f) := by
                show turn _ (i - 3 + m) _ = _; rw [show i - 3 = q by omega]
              have hst := (hown.stored (q + m) (.int .i64 ((divK rr i f m).getD (q + m) 0 ^^^ gm (gen.getD m 0) f : Nat))).1
              rw [ints_set, show (divK rr i f m).set (q + m) ((divK rr i f m).getD (q + m) 0 ^^^ gm (gen.getD m 0) f) = divK rr i f (m + 1) by rw [hnew]; rfl] at hst
              have gm16 := gm_lt g16 HF16.out
              have HXX := hide (i64_xor ((divK rr i f m).getD (q + m) 0) (gm (gen.getD m 0) f) (by omega) (by omega))
              obtain ⟨z, hz⟩ : ∃ z, (divK rr i f m).getD (q + m) 0 = z := ⟨_, rfl⟩
              obtain ⟨gg, hgg⟩ : ∃ gg, gen.getD m 0 = gg := ⟨_, rfl⟩
              rw [hz] at e1 HXX hst
              rw [hgg] at e2 g16 HXX hst
              obtain ⟨pp, hpp⟩ : ∃ pp, gm gg f = pp := ⟨_, rfl⟩
              rw [hpp] at HXX hst
              have HPPp := hide hpp; have HG16 := hide g16; have HSTm := hide hst; have HBm := hide hBm
              have hq1 : IntKind.i64.wrap ((q : Int) + (m : Int)) = (q : Int) + (m : Int) := IntWalk.i64_in _ (by omega)
              have hq2 : ((q : Int) + (m : Int)).toNat = q + m := by omega
              have hq3 : (0 : Int) ≤ (q : Int) + (m : Int) := by omega
              have hq4 : (q : Int) + (m : Int) < 11 := by omega
              clear hown hdl hds2 z16 hnew hst gm16 hz hgg hpp g16
              go_wp2_with fail
              go_region_law (first | (go_simp; go_at_call 97; refine (spec_GfMul_is gg f pp _ HPPp.out HG16.out HF16.out).mono ?_; rintro e w1 ⟨rfl, rfl⟩))
              all_goals
                go_wp2
                go_roundw
                case rel => exact ⟨m + 1, by omega, by go_num, (HBm.out.setCell (by show wo.heap.size ≤ gr; omega) _).drew, by rw [HXX.out]; exact HSTm.out.drew⟩
                case measure => simp [intOf]; omega
            · obtain rfl : m = 4 := by omega
              have HO4 := hide hown
              clear hown
              go_wp2_with fail
              go_roundw
              case rel => exact ⟨k + 1, q + 2, by omega, by omega, by go_num, hBm, by rw [HST.out]; exact HO4.out⟩
              case measure => simp [intOf]; omega
        · obtain rfl : i = 2 := by omega
          obtain rfl : k = 8 := by omega
          have HO8 := hide hown
          clear hown
          obtain ⟨hsy, hln, _, _⟩ := HINV.out 8 (by omega)
          have HPk := hide (own_below HP.out (bthen hB hBk (by omega)) (fun k hk => (HP.out.lt k hk).2))
          have hpl := hide (fun k hk => (HP.out.lt k hk).2)
          obtain ⟨gp, rfl, hgp1, hgp2, _⟩ := own_some HPk.out (by omega)
          have hgp3 := hpl.out gp rfl
          have hcapp := own_caps HPk.out
          have hcp1 : 11 ≤ cp := hcapp.1
          have hcp2 : cp ≤ 9223372036854775807 := hcapp.2
          have hnp : ¬ gp = gr := by omega
          have hnp2 : ¬ gr = gp := by omega
          have HE : Hid (encS ds = (divTo (data0 ds) 8).take 3 ++ (data0 ds).drop 3) := hide rfl
          have HB8 := hide (bthen HBp.out (bthen hB hBk (by omega)) (by omega))
          generalize divTo (data0 ds) 8 = rr at *
          have HLN := hide hln
          have HRC := hide (fun k (hk : k < 11) => (HO8.out.cellAt k (by omega)).trans (ints_at (ws := rr) (k := k) (by omega)))
          clear hcapp hsy hln HO8 HP hpl
          go_wp2_with fail
          go_loopw [13] (fun vm wi => ∃ m : Nat, m ≤ 3 ∧ vm = .int .i64 m ∧ Below w.heap.size w wi ∧ wi.ownsRow w.heap.size 3 1 (.slice (some ⟨gp, 0, none⟩) 11 cp) 11 ((ints (rr.take m ++ (data0 ds).drop m)).map (.int .i64)) ∧ ∀ k, k < 11 → wi.cell? ⟨gr, k, none⟩ = some (.int .i64 (rr.getD k 0 : Nat))) (fun vm _ => 3 - (intOf vm).toNat)
          case atStart => exact ⟨0, by omega, rfl, HB8.out, by simpa using HPk.out, HRC.out⟩
          case round =>
            obtain ⟨m, hm3, rfl, hBm, hown, hrc⟩ := hrel
            by_cases hlt5 : m < 3
            · have j0 : (0 : Int) ≤ (m : Int) := by omega
              have j1 : (m : Int) < 11 := by omega
              have j2 : (m : Int) < 3 := by omega
              have e0 := hrc m (by omega)
              have e1 := (hown.cellAt m (by omega)).trans (ints_at (ws := rr.take m ++ (data0 ds).drop m) (k := m) (by simp [HLN.out, hd0.out]; omega))
              have ef := fun k => hown.frozenAt k
              have hst := (hown.stored m (.int .i64 (rr.getD m 0 : Nat))).1
              rw [ints_set, over_next rr (data0 ds) m 11 (by omega) HLN.out hd0.out (rr.getD m 0) (by rw [List.getD_eq_getElem?_getD, List.getElem?_eq_getElem (by rw [HLN.out]; omega)]; rfl)] at hst
              obtain ⟨z, hz⟩ : ∃ z, rr.getD m 0 = z := ⟨_, rfl⟩
              obtain ⟨y, hy⟩ : ∃ y, (rr.take m ++ (data0 ds).drop m).getD m 0 = y := ⟨_, rfl⟩
              rw [hz] at e0 hst
              rw [hy] at e1
              have HSTm := hide hst; have HBm := hide hBm
              have HRCm := hide (fun k (hk : k < 11) => (show (wr.setCell ⟨gp, m, none⟩ (.int .i64 (z : Nat))).cell? ⟨gr, k, none⟩ = some (.int .i64 (rr.getD k 0 : Nat)) from (World.cell?_of_block (heap_set_other wr gp m gr _ hnp2)).trans (hrc k hk)))
              clear hown hst hrc hz hy
              go_wp2_with fail
              go_roundw
              case rel => exact ⟨m + 1, by omega, by go_num, HBm.out.setCell (by show w.heap.size ≤ gp; omega) _, HSTm.out, HRCm.out⟩
              case measure => simp [intOf]; omega
            · obtain rfl : m = 3 := by omega
              have HOF := hide hown
              clear hown hrc
              go_wp2_with fail
              go_ret
              exact ⟨_, _, rfl, by rw [HE.out]; exact HOF.out, hBm⟩
end Go.Proofs.Ytkhcepmileiejaa
