/- The drawn queue with one odd request, or an odd number of lines. -/
import Derived.Test.YtahfbhfmhccgoaaDrawQ2
set_option linter.unusedSimpArgs false
set_option linter.unusedVariables false
namespace Go.Proofs.Ytahfbhfmhccgoaa
open Go.RowKit Go.ChangeShapes Go.WideShapes Go.ChangeAt Go.Joins Go.Deep
open Go.ChangeMaps (open_string shut_string)
def DrewAnyQ (w0 : World) (a : Option Addr) (n c b : Nat) (w : World) (e : Ending) (w' : World) : Prop :=
  ∃ (l : Int) (a' : Option Addr) (m c' : Nat) (es : List Rq), m ≤ 21 ∧ e = .returned (.tuple #[.int .i64 l, .slice a' m c']) ∧ w'.ownsRow w.heap.size 41 6 (.slice a' m c') m (es.flatMap rqF) ∧ es.length = m ∧ Cur w0 a n c b w' ∧ w.grownBy w' (some b)
set_option maxRecDepth 100000 in
set_option maxHeartbeats 2000000 in
theorem spec_l19Any (w0 : World) (a : Option Addr) (n c b : Nat) (bs : List Int) (w : World) (ha : IsInts .u8 w0 a n c bs) (hs : n ≤ 1048576) (hC0 : Cur w0 a n c b w) :
    Calls Try.prog 75 #[.pointer (some ⟨b, 0, none⟩)] w (DrewAnyQ w0 a n c b w) := by
  obtain ⟨i0_Rq, hi_Rq, hz0_Rq, hz1_Rq, hz2_Rq⟩ := info_parts info_Rq
  have HA := hide ha
  clear ha
  have hlb := hC0.lt
  have hwb : w0.heap.size ≤ b := by obtain ⟨_, _, _, _, _, h⟩ := hC0; exact h
  go_enter Try.func75, Try.ntmps75
  go_wp2_with fail
  refine (spec_l01Below _ a n c b bs _ 6 HA.out hs (by omega) hC0).mono ?_
  rintro e w1 ⟨x, x0, x1, rfl, hC1, hg1⟩
  have hs1 := hg1.size
  go_wp2_with fail
  refine (spec_l19Queue _ a n c b bs _ (1 + x) HA.out hs (by omega) hC1).mono ?_
  rintro e w2 ⟨a1, m, c1, es, hm, rfl, hown, hel, hC2, hg2⟩
  have HO2 := hide (own_base hown (show w.heap.size ≤ w1.heap.size by omega)); have HL := hide hel
  have hcc := own_caps hown
  have hcc1 := hcc.1; have hcc2 : c1 ≤ 9223372036854775807 := hcc.2
  have hs2 := hg2.size
  have HG2 := hide (only_trans hg1 hg2)
  clear hown hel hcc hC1 hg2 hg1
  go_wp2_with fail
  refine (spec_l01Below _ a n c b bs _ m HA.out hs (by omega) hC2).mono ?_
  rintro e w3 ⟨k, k0, k1, rfl, hC3, hg3⟩
  have HO3 := hide (HO2.out.kept hg3 (own_ne HO2.out (by omega)))
  have hs3 := hg3.size
  have HG3 := hide (only_trans HG2.out hg3)
  clear HO2 HG2 hg3 hC2
  go_wp2_with fail
  refine (spec_l01Below _ a n c b bs _ 12 HA.out hs (by omega) hC3).mono ?_
  rintro e w4 ⟨y, y0, y1, rfl, hC4, hg4⟩
  have HO4 := hide (HO3.out.kept hg4 (own_ne HO3.out (by omega)))
  have hs4 := hg4.size
  have HG4 := hide (only_trans HG3.out hg4)
  clear HO3 HG3 hg4 hC3
  by_cases h0 : y = 0
  · subst h0
    by_cases hm0 : 0 < m
    · obtain ⟨kk, rfl⟩ := Int.eq_ofNat_of_zero_le k0
      have hkm : kk < m := by omega
      obtain ⟨f, hf⟩ : ∃ f, es[kk]? = some f := ⟨_, List.getElem?_eq_getElem (by rw [HL.out]; exact hkm)⟩
      have HF := hide hf
      clear hf
      go_wp2_with fail
      refine (spec_l19AnyReq _ a n c b bs _ (1 + x) HA.out hs (by omega) (by omega) hC4).mono ?_
      rintro e w5 ⟨ri, rt, rl, rw', rd, rq, rfl, hC5, hg5⟩
      have HO5 := hide (HO4.out.kept hg5 (own_ne HO4.out (by omega)))
      have hs5 := hg5.size
      have HG5 := hide (only_trans HG4.out hg5)
      clear HO4 HG4 hg5 hC4
      obtain ⟨g, rfl, hg0, hg1, hrest⟩ := own_some HO5.out (by omega)
      clear hrest
      have hgb : ¬ g = b := by omega
      have q0 : w5.cell? ⟨g, kk * 6, none⟩ = some (.int .i64 f.id) := (HO5.out.cellAt (kk * 6 + 0) (by omega)).trans (flat_at rqF_len _ kk 0 f _ HF.out rfl)
      have q1 : w5.cell? ⟨g, kk * 6 + 1, none⟩ = some (.int .i64 f.tenant) := (HO5.out.cellAt (kk * 6 + 1) (by omega)).trans (flat_at rqF_len _ kk 1 f _ HF.out rfl)
      have q2 : w5.cell? ⟨g, kk * 6 + 2, none⟩ = some (.int .i64 f.line) := (HO5.out.cellAt (kk * 6 + 2) (by omega)).trans (flat_at rqF_len _ kk 2 f _ HF.out rfl)
      have q3 : w5.cell? ⟨g, kk * 6 + 3, none⟩ = some (.bool f.write) := (HO5.out.cellAt (kk * 6 + 3) (by omega)).trans (flat_at rqF_len _ kk 3 f _ HF.out rfl)
      have q4 : w5.cell? ⟨g, kk * 6 + 4, none⟩ = some (.int .i64 f.data) := (HO5.out.cellAt (kk * 6 + 4) (by omega)).trans (flat_at rqF_len _ kk 4 f _ HF.out rfl)
      have q5 : w5.cell? ⟨g, kk * 6 + 5, none⟩ = some (.int .i64 f.tm) := (HO5.out.cellAt (kk * 6 + 5) (by omega)).trans (flat_at rqF_len _ kk 5 f _ HF.out rfl)
      have kf := fun j => HO5.out.frozenAt j
      have i1 : (kk : Int) < (m : Int) := by omega
      have i0 : (0 : Int) ≤ (kk : Int) := by omega
      have HC5 := hide hC5
      clear hC5
      go_wp2_with fail
      go_returns
      have st0 := (HO5.out.stored (kk * 6 + 0) (.int .i64 ri)).1
      rw [flat_set rqF_len _ kk 0 f ⟨ri, f.tenant, f.line, f.write, f.data, f.tm⟩ _ HF.out rfl (by omega)] at st0
      have st1 := (st0.stored (kk * 6 + 1) (.int .i64 rt)).1
      have set_at1 : (es.set kk ⟨ri, f.tenant, f.line, f.write, f.data, f.tm⟩)[kk]? = some ⟨ri, f.tenant, f.line, f.write, f.data, f.tm⟩ := List.getElem?_set_self (by rw [HL.out]; exact hkm)
      rw [flat_set rqF_len _ kk 1 (⟨ri, f.tenant, f.line, f.write, f.data, f.tm⟩ : Rq) ⟨ri, rt, f.line, f.write, f.data, f.tm⟩ _ set_at1 rfl (by omega)] at st1
      rw [List.set_set] at st1
      clear st0
      have st2 := (st1.stored (kk * 6 + 2) (.int .i64 rl)).1
      have set_at2 : (es.set kk ⟨ri, rt, f.line, f.write, f.data, f.tm⟩)[kk]? = some ⟨ri, rt, f.line, f.write, f.data, f.tm⟩ := List.getElem?_set_self (by rw [HL.out]; exact hkm)
      rw [flat_set rqF_len _ kk 2 (⟨ri, rt, f.line, f.write, f.data, f.tm⟩ : Rq) ⟨ri, rt, rl, f.write, f.data, f.tm⟩ _ set_at2 rfl (by omega)] at st2
      rw [List.set_set] at st2
      clear st1
      have st3 := (st2.stored (kk * 6 + 3) (.bool rw')).1
      have set_at3 : (es.set kk ⟨ri, rt, rl, f.write, f.data, f.tm⟩)[kk]? = some ⟨ri, rt, rl, f.write, f.data, f.tm⟩ := List.getElem?_set_self (by rw [HL.out]; exact hkm)
      rw [flat_set rqF_len _ kk 3 (⟨ri, rt, rl, f.write, f.data, f.tm⟩ : Rq) ⟨ri, rt, rl, rw', f.data, f.tm⟩ _ set_at3 rfl (by omega)] at st3
      rw [List.set_set] at st3
      clear st2
      have st4 := (st3.stored (kk * 6 + 4) (.int .i64 rd)).1
      have set_at4 : (es.set kk ⟨ri, rt, rl, rw', f.data, f.tm⟩)[kk]? = some ⟨ri, rt, rl, rw', f.data, f.tm⟩ := List.getElem?_set_self (by rw [HL.out]; exact hkm)
      rw [flat_set rqF_len _ kk 4 (⟨ri, rt, rl, rw', f.data, f.tm⟩ : Rq) ⟨ri, rt, rl, rw', rd, f.tm⟩ _ set_at4 rfl (by omega)] at st4
      rw [List.set_set] at st4
      clear st3
      have st5 := (st4.stored (kk * 6 + 5) (.int .i64 rq)).1
      have set_at5 : (es.set kk ⟨ri, rt, rl, rw', rd, f.tm⟩)[kk]? = some ⟨ri, rt, rl, rw', rd, f.tm⟩ := List.getElem?_set_self (by rw [HL.out]; exact hkm)
      rw [flat_set rqF_len _ kk 5 (⟨ri, rt, rl, rw', rd, f.tm⟩ : Rq) ⟨ri, rt, rl, rw', rd, rq⟩ _ set_at5 rfl (by omega)] at st5
      rw [List.set_set] at st5
      clear st4
      exact ⟨_, _, m, _, es.set kk ⟨ri, rt, rl, rw', rd, rq⟩, by omega, rfl, st5, by rw [List.length_set]; exact HL.out, (((((HC5.out.set (by omega) _).set (by omega) _).set (by omega) _).set (by omega) _).set (by omega) _).set (by omega) _, only_setCell (only_setCell (only_setCell (only_setCell (only_setCell (only_setCell HG5.out (.inr hg0) _) (.inr hg0) _) (.inr hg0) _) (.inr hg0) _) (.inr hg0) _) (.inr hg0) _⟩
    · have hm1 : m = 0 := by omega
      subst hm1
      go_wp2_with fail
      go_returns
      exact ⟨_, _, _, _, es, by omega, rfl, HO4.out, HL.out, hC4, HG4.out⟩
  · by_cases h1 : y = 1
    · subst h1
      go_wp2_with fail
      refine (spec_l19AnyReq _ a n c b bs _ (1 + x) HA.out hs (by omega) (by omega) hC4).mono ?_
      rintro e w5 ⟨ri, rt, rl, rw', rd, rq, rfl, hC5, hg5⟩
      have HO5 := hide (HO4.out.kept hg5 (own_ne HO4.out (by omega)))
      have hs5 := hg5.size
      have HG5 := hide (only_trans HG4.out hg5)
      clear HO4 HG4 hg5 hC4
      have hB5 : Below w0.heap.size w0 w5 := cur_below hC5 (Below.refl _ _) (Nat.le_refl _)
      have HC5 := hide hC5; clear hC5
      go_wp2_with (at_builtin; refine wpList_append_own _ rfl _ _ 36 rfl w.heap.size 41 i0_Rq (.agg #[.int .i64 0, .int .i64 0, .int .i64 0, .bool false, .int .i64 0, .int .i64 0]) 6 48 Try.underlying36 hi_Rq hz0_Rq hz1_Rq hz2_Rq rfl (by decide) _ _ _ rfl (HO5.out.alloc _) ⟨w5.heap.size, 0, none⟩ 1 1 [.int .i64 ri, .int .i64 rt, .int .i64 rl, .bool rw', .int .i64 rd, .int .i64 rq] rfl rfl ?c1p ?c2p ?c3p ?c4p ?c5p ?_)
      (try case c1p => exact news_at_of _ _ _ (by go_size))
      (try case c2p => first | exact List.all_eq_true.1 rfl | rfl)
      (try case c3p => (unfold maxLen; omega))
      (try case c4p => omega)
      (try case c5p => (first | go_size | (simp; omega)))
      intro v' wp hownp hgp _
      obtain ⟨ap, cp, rfl⟩ := own_shape hownp
      obtain ⟨hBp, hsp⟩ := below_app hB5 HO5.out (by omega) (by omega) hgp
      have HGp := hide hgp; clear hgp
      have hCp := HC5.out.app HO5.out (by omega) HGp.out
      have hGp := only_grow_own (only_alloc HG5.out (.cells #[.int .i64 ri, .int .i64 rt, .int .i64 rl, .bool rw', .int .i64 rd, .int .i64 rq] 41)) HGp.out (fun q hq => (HO5.out.lt q hq).1)
      go_wp2_with fail
      go_returns
      exact ⟨_, _, m + 1, _, es ++ [⟨ri, rt, rl, rw', rd, rq⟩], by omega, rfl, by simpa [rqF] using hownp, by simp [HL.out], hCp, hGp⟩
    · by_cases h2 : y = 2
      · subst h2
        go_wp2_with fail
        refine (spec_l01PickInt w0 a n c b bs (w4.alloc (.cells #[.int .i64 0, .int .i64 (-1), .int .i64 1] 3)) (some ⟨w4.heap.size, 0, none⟩) 3 3 [0, -1, 1] HA.out hs (hC4.alloc _) (ints_lit _ _ _ 3 _ rfl rfl (by omega) (by simp; try omega)) (by omega) (by intro g o hg; injection hg with hg; injection hg with hg; omega)).mono ?_
        rintro e w5 ⟨z, hz, rfl, hC5, hg5⟩
        have HO5 := hide ((HO4.out.alloc _).kept hg5 (own_ne HO4.out (by omega)))
        have HG5 := hide (only_trans (only_alloc HG4.out _) hg5)
        go_wp2_with fail
        go_returns
        exact ⟨_, _, _, _, es, by omega, rfl, HO5.out, HL.out, hC5, HG5.out⟩
      · go_wp2_with fail
        go_returns
        exact ⟨_, _, _, _, es, by omega, rfl, HO4.out, HL.out, hC4, HG4.out⟩
end Go.Proofs.Ytahfbhfmhccgoaa
