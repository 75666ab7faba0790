/- Only a waiting tenant is selected, and without one nothing changes: for every drawn input FnOnlyWaiting answers true. No condition. -/
import Derived.Test.YtahfbhfmhccgoaaSameSh
import Derived.Test.YtahfbhfmhccgoaaPick
import Derived.Test.YtahfbhfmhccgoaaDrawSh
set_option linter.unusedSimpArgs false
set_option linter.unusedVariables false
namespace Go.Proofs.Ytahfbhfmhccgoaa
open Go.RowKit Go.ChangeShapes Go.WideShapes Go.ChangeAt Go.Joins Go.Deep
open Go.ChangeMaps (open_string shut_string)
theorem bestTo_waits (es : List Sh) (ws : List Bool) : ∀ k : Nat, bestTo es ws k < 0 ∨ ∃ m : Nat, bestTo es ws k = m ∧ ws[m]? = some true
  | 0 => .inl (by show (-1 : Int) < 0; omega)
  | k + 1 => by
    by_cases h : ws[k]? = some true ∧ (bestTo es ws k < 0 ∨ creditAt es (bestTo es ws k) < creditAt es k)
    · exact .inr ⟨k, if_pos h, h.1⟩
    · have e : bestTo es ws (k + 1) = bestTo es ws k := if_neg h
      rw [e]
      exact bestTo_waits es ws k
theorem pick_waits {es : List Sh} {ws : List Bool} (h : 0 ≤ pickN es ws) : ∃ m : Nat, pickN es ws = m ∧ ws[m]? = some true := by
  unfold pickN at h ⊢
  by_cases hc : sharesOkB es = true ∧ 0 ≤ best es ws
  · rw [if_pos hc] at h ⊢
    rcases bestTo_waits (pickFrom es (best es ws)) ws (min (pickFrom es (best es ws)).length ws.length) with h1 | h1
    · exact absurd h1 (by unfold best at h ⊢; omega)
    · exact h1
  · rw [if_neg hc] at h; omega
theorem pick_idle {es : List Sh} {ws : List Bool} (h : pickN es ws < 0) : pickL es ws = es := by
  unfold pickN at h
  unfold pickL
  by_cases hc : sharesOkB es = true ∧ 0 ≤ best es ws
  · rw [if_pos hc] at h
    have := (best_pos_len (pickFrom_len es (best es ws)) (ws := ws)).2 hc.2
    omega
  · rw [if_neg hc]
theorem pick_nil (es : List Sh) : pickL es [] = es ∧ pickN es [] = -1 := pick_none (.inr (by unfold best; rw [show min es.length ([] : List Bool).length = 0 by simp]; show (-1 : Int) < 0; omega))
theorem bools_none (w : World) (T : TypeId) : IsBools (w.alloc (.cells #[] T)) (some ⟨w.heap.size, 0, none⟩) 0 0 [] := ⟨rfl, Nat.le_refl _, Nat.zero_le _, RowIn.nil _ _⟩
theorem impl_PickTenant_is (a : Option Addr) (n c : Nat) (es : List Sh) (a2 : Option Addr) (n2 c2 : Nat) (ws : List Bool) (fs : List Sh) (t : Int) (h1 : pickL es ws = fs) (h2 : pickN es ws = t) (w : World) (ha : IsStructs shF 2 w a n c es) (hb : IsBools w a2 n2 c2 ws) (hs : n ≤ 2097152) (hs2 : n2 ≤ 2097152) :
    Calls Try.prog 20 #[.slice a n c, .slice a2 n2 c2] w (GotPickN w n fs t) := by subst h1 h2; exact impl_PickTenant_n a n c es a2 n2 c2 ws w ha hb hs hs2
theorem spec_PickTenant_is (a : Option Addr) (n c : Nat) (es : List Sh) (a2 : Option Addr) (n2 c2 : Nat) (ws : List Bool) (fs : List Sh) (t : Int) (h1 : pickL es ws = fs) (h2 : pickN es ws = t) (w : World) (ha : IsStructs shF 2 w a n c es) (hb : IsBools w a2 n2 c2 ws) (hs : n ≤ 2097152) (hs2 : n2 ≤ 2097152) :
    Calls Try.prog 21 #[.slice a n c, .slice a2 n2 c2] w (GotPickN w n fs t) := by subst h1 h2; exact spec_PickTenant_n a n c es a2 n2 c2 ws w ha hb hs hs2

set_option maxRecDepth 100000 in
set_option maxHeartbeats 2000000 in
theorem FnOnlyWaiting_walk (a : Option Addr) (n c : Nat) (zs : List Int) (w : World) (ha : IsInts .u8 w a n c zs) :
    Calls Try.prog 4 #[.slice a n c] w fun e w' => e = .returned (.bool true) ∧ Below w.heap.size w w' := by
  have hm : c ≤ 9223372036854775807 := ha.2.2.1
  have hc := ha.2.1
  by_cases hs : n ≤ 1048576
  · have HA := hide ha
    clear ha
    go_enter Try.func4, Try.ntmps4
    go_wp2_with fail
    refine (laws_big a n c _ hs).mono ?_
    rintro e w' ⟨rfl, rfl⟩
    go_wp2_with fail
    refine (spec_DrawPickTenant a n c _ _ HA.out hs).mono ?_
    rintro e v1 ⟨a1, m, c1, es, a2, m2, c2, ws, hm8, hm5, rfl, hI, hJ, hV⟩
    have HI := hide hI; have HJ := hide hJ
    have hcj := hJ.2.1; have hmj : c2 ≤ 9223372036854775807 := hJ.2.2.1
    clear hI hJ
    obtain ⟨t, ht⟩ : ∃ t, pickN es ws = t := ⟨_, rfl⟩
    obtain ⟨fs, hf⟩ : ∃ fs, pickL es ws = fs := ⟨_, rfl⟩
    have HT := hide ht; have HF := hide hf
    clear ht hf
    by_cases h0 : 0 ≤ t
    · obtain ⟨q, hq, hw⟩ := pick_waits (es := es) (ws := ws) (by rw [HT.out]; exact h0)
      obtain rfl : t = (q : Int) := by rw [← HT.out, hq]
      have hql : q < m2 := by have := (List.getElem?_eq_some_iff.1 hw).1; rw [HJ.out.1] at this; exact this
      obtain ⟨z, b2, o2, hz, rfl, hlb2, hcz⟩ := HJ.out.2.2.2.get (k := q) (by rw [HJ.out.1]; exact hql)
      rw [hw] at hz; injection hz with hz; subst hz
      have HC := hide hcz
      have i1 : (q : Int) < (m2 : Int) := by omega
      have i2 : decide (m2 ≤ q) = false := by simpa using hql
      clear hq hw hcz
      go_wp2_with fail
      refine (impl_PickTenant_is _ _ _ es _ _ _ ws fs _ HF.out HT.out _ HI.out HJ.out (by omega) (by omega)).mono ?_
      rintro e w1 ⟨ag, cg, rfl, o1, h1⟩
      have s1 := h1.size
      try simp only [World.size_alloc, World.size_setCell, World.size_drew, World.heap_drewN] at s1
      have H1 : Below v1.heap.size v1 w1 := bthen (by repeat' (first | (with_reducible exact Below.refl _ _) | (with_reducible assumption) | (with_reducible refine bdrawn ?_ _) | (with_reducible refine Below.alloc ?_ ?_ _) | (with_reducible refine Below.drew ?_) | (with_reducible refine Below.setCell ?_ ?_ _) | go_size)) h1 (by go_size)
      have C1 := (bcell H1).1; have F1 := (bcell H1).2
      have x := hide (Owned.of_own o1)
      clear o1
      go_wp2_with fail
      refine (impl_PickTenant_is _ _ _ es _ _ _ [] es (-1) (pick_nil es).1 (pick_nil es).2 _ (HI.out.below (bthen H1 (Below.alloc (Below.refl _ _) (Nat.le_refl _) _) (by omega)) (Nat.le_refl _)) (bools_none _ _) (by omega) (by omega)).mono ?_
      rintro e w2 ⟨ah, ch, rfl, o2, h2⟩
      have s2 := h2.size
      try simp only [World.size_alloc, World.size_setCell, World.size_drew, World.heap_drewN] at s2
      have B2_2 := h2
      have z2_0 : w1.heap.size < w2.heap.size := by omega
      have q2_0 := fun o => (bcell B2_2).1 (w1.heap.size) o (by go_size)
      have f2_0 := fun o => (bcell B2_2).2 (w1.heap.size) o (by go_size)
      have H2 : Below v1.heap.size v1 w2 := bthen (by repeat' (first | (with_reducible exact Below.refl _ _) | (with_reducible assumption) | (with_reducible refine bdrawn ?_ _) | (with_reducible refine Below.alloc ?_ ?_ _) | (with_reducible refine Below.drew ?_) | (with_reducible refine Below.setCell ?_ ?_ _) | go_size)) h2 (by go_size)
      have C2 := (bcell H2).1; have F2 := (bcell H2).2
      have P2 : Below w1.heap.size w1 w2 := bthen (by repeat' (first | (with_reducible exact Below.refl _ _) | (with_reducible assumption) | (with_reducible refine bdrawn ?_ _) | (with_reducible refine Below.alloc ?_ ?_ _) | (with_reducible refine Below.drew ?_) | (with_reducible refine Below.setCell ?_ ?_ _) | go_size)) h2 (by go_size)
      replace x := hide (x.out.below P2 (by omega))
      have y := hide (Owned.of_own o2)
      clear o2
      have z0 := HC.out
      obtain ⟨x2, rfl⟩ : ∃ W : World, W = w2 := ⟨_, rfl⟩
      have hX := H2
      go_wp2_with fail
      refine (spec_PickTenant_is _ _ _ es _ _ _ ws fs _ HF.out HT.out _ (HI.out.below hX (Nat.le_refl _)) (HJ.out.below hX (Nat.le_refl _)) (by omega) (by omega)).mono ?_
      rintro e w1 ⟨ak, ck, rfl, o1, h1⟩
      have s1 := h1.size
      try simp only [World.size_alloc, World.size_setCell, World.size_drew, World.heap_drewN] at s1
      have H1 : Below x2.heap.size x2 w1 := bthen (by repeat' (first | (with_reducible exact Below.refl _ _) | (with_reducible assumption) | (with_reducible refine bdrawn ?_ _) | (with_reducible refine Below.alloc ?_ ?_ _) | (with_reducible refine Below.drew ?_) | (with_reducible refine Below.setCell ?_ ?_ _) | go_size)) h1 (by go_size)
      have C1 := (bcell H1).1; have F1 := (bcell H1).2
      have P1 : Below x2.heap.size x2 w1 := bthen (by repeat' (first | (with_reducible exact Below.refl _ _) | (with_reducible assumption) | (with_reducible refine bdrawn ?_ _) | (with_reducible refine Below.alloc ?_ ?_ _) | (with_reducible refine Below.drew ?_) | (with_reducible refine Below.setCell ?_ ?_ _) | go_size)) h1 (by go_size)
      replace y := hide (y.out.below P1 (by omega))
      go_wp2_with fail
      refine (laws_sameShare _ _ _ _ _ es _ (isStructs_own shF_len (by omega) y.out.1) (HI.out.below (bthen hX H1 (by omega)) (Nat.le_refl _))).mono ?_
      rintro e w2 ⟨rfl, h2⟩
      have s2 := h2.size
      try simp only [World.size_alloc, World.size_setCell, World.size_drew, World.heap_drewN] at s2
      have H2 : Below x2.heap.size x2 w2 := bthen (by repeat' (first | (with_reducible exact Below.refl _ _) | (with_reducible assumption) | (with_reducible refine bdrawn ?_ _) | (with_reducible refine Below.alloc ?_ ?_ _) | (with_reducible refine Below.drew ?_) | (with_reducible refine Below.setCell ?_ ?_ _) | go_size)) h2 (by go_size)
      have C2 := (bcell H2).1; have F2 := (bcell H2).2
      have P2 : Below w1.heap.size w1 w2 := bthen (by repeat' (first | (with_reducible exact Below.refl _ _) | (with_reducible assumption) | (with_reducible refine bdrawn ?_ _) | (with_reducible refine Below.alloc ?_ ?_ _) | (with_reducible refine Below.drew ?_) | (with_reducible refine Below.setCell ?_ ?_ _) | go_size)) h2 (by go_size)
      replace y := hide (y.out.below P2 (by omega))
      go_wp2_with fail
      go_ret
      exact ⟨rfl, bthen hV (bthen hX H2 (by omega)) hV.size⟩
    · obtain rfl : fs = es := by rw [← HF.out]; exact pick_idle (by rw [HT.out]; omega)
      go_wp2_with fail
      refine (impl_PickTenant_is _ _ _ fs _ _ _ ws fs t HF.out HT.out _ HI.out HJ.out (by omega) (by omega)).mono ?_
      rintro e w1 ⟨ag, cg, rfl, o1, h1⟩
      have s1 := h1.size
      try simp only [World.size_alloc, World.size_setCell, World.size_drew, World.heap_drewN] at s1
      have H1 : Below v1.heap.size v1 w1 := bthen (by repeat' (first | (with_reducible exact Below.refl _ _) | (with_reducible assumption) | (with_reducible refine bdrawn ?_ _) | (with_reducible refine Below.alloc ?_ ?_ _) | (with_reducible refine Below.drew ?_) | (with_reducible refine Below.setCell ?_ ?_ _) | go_size)) h1 (by go_size)
      have C1 := (bcell H1).1; have F1 := (bcell H1).2
      have x := hide (Owned.of_own o1)
      clear o1
      go_wp2_with fail
      refine (impl_PickTenant_is _ _ _ fs _ _ _ [] fs (-1) (pick_nil fs).1 (pick_nil fs).2 _ (HI.out.below (bthen H1 (Below.alloc (Below.refl _ _) (Nat.le_refl _) _) (by omega)) (Nat.le_refl _)) (bools_none _ _) (by omega) (by omega)).mono ?_
      rintro e w2 ⟨ah, ch, rfl, o2, h2⟩
      have s2 := h2.size
      try simp only [World.size_alloc, World.size_setCell, World.size_drew, World.heap_drewN] at s2
      have B2_2 := h2
      have z2_0 : w1.heap.size < w2.heap.size := by omega
      have q2_0 := fun o => (bcell B2_2).1 (w1.heap.size) o (by go_size)
      have f2_0 := fun o => (bcell B2_2).2 (w1.heap.size) o (by go_size)
      have H2 : Below v1.heap.size v1 w2 := bthen (by repeat' (first | (with_reducible exact Below.refl _ _) | (with_reducible assumption) | (with_reducible refine bdrawn ?_ _) | (with_reducible refine Below.alloc ?_ ?_ _) | (with_reducible refine Below.drew ?_) | (with_reducible refine Below.setCell ?_ ?_ _) | go_size)) h2 (by go_size)
      have C2 := (bcell H2).1; have F2 := (bcell H2).2
      have P2 : Below w1.heap.size w1 w2 := bthen (by repeat' (first | (with_reducible exact Below.refl _ _) | (with_reducible assumption) | (with_reducible refine bdrawn ?_ _) | (with_reducible refine Below.alloc ?_ ?_ _) | (with_reducible refine Below.drew ?_) | (with_reducible refine Below.setCell ?_ ?_ _) | go_size)) h2 (by go_size)
      replace x := hide (x.out.below P2 (by omega))
      have y := hide (Owned.of_own o2)
      clear o2
      go_wp2_with fail
      refine (spec_PickTenant_is _ _ _ fs _ _ _ ws fs t HF.out HT.out _ (HI.out.below H2 (Nat.le_refl _)) (HJ.out.below H2 (Nat.le_refl _)) (by omega) (by omega)).mono ?_
      rintro e w3 ⟨ak, ck, rfl, o3, h3⟩
      have s3 := h3.size
      try simp only [World.size_alloc, World.size_setCell, World.size_drew, World.heap_drewN] at s3
      have B3_2 := bnext (by first | (with_reducible exact B2_2) | exact (bgrow B2_2 (by go_size) (by repeat' (first | (with_reducible exact Below.refl _ _) | (with_reducible assumption) | (with_reducible refine bdrawn ?_ _) | (with_reducible refine Below.alloc ?_ ?_ _) | (with_reducible refine Below.drew ?_) | (with_reducible refine Below.setCell ?_ ?_ _) | go_size)))) h3 (by go_size)
      have z3_0 : w1.heap.size < w3.heap.size := by omega
      have q3_0 := fun o => (bcell B3_2).1 (w1.heap.size) o (by go_size)
      have f3_0 := fun o => (bcell B3_2).2 (w1.heap.size) o (by go_size)
      have H3 : Below v1.heap.size v1 w3 := bthen (by repeat' (first | (with_reducible exact Below.refl _ _) | (with_reducible assumption) | (with_reducible refine bdrawn ?_ _) | (with_reducible refine Below.alloc ?_ ?_ _) | (with_reducible refine Below.drew ?_) | (with_reducible refine Below.setCell ?_ ?_ _) | go_size)) h3 (by go_size)
      have C3 := (bcell H3).1; have F3 := (bcell H3).2
      have P3 : Below w2.heap.size w2 w3 := bthen (by repeat' (first | (with_reducible exact Below.refl _ _) | (with_reducible assumption) | (with_reducible refine bdrawn ?_ _) | (with_reducible refine Below.alloc ?_ ?_ _) | (with_reducible refine Below.drew ?_) | (with_reducible refine Below.setCell ?_ ?_ _) | go_size)) h3 (by go_size)
      replace x := hide (x.out.below P3 (by omega))
      replace y := hide (y.out.below P3 (by omega))
      go_wp2_with fail
      refine (laws_sameShare _ _ _ _ _ fs _ (isStructs_own shF_len (by omega) y.out.1) (HI.out.below H3 (Nat.le_refl _))).mono ?_
      rintro e w4 ⟨rfl, h4⟩
      have s4 := h4.size
      try simp only [World.size_alloc, World.size_setCell, World.size_drew, World.heap_drewN] at s4
      have B4_2 := bnext (by first | (with_reducible exact B3_2) | exact (bgrow B3_2 (by go_size) (by repeat' (first | (with_reducible exact Below.refl _ _) | (with_reducible assumption) | (with_reducible refine bdrawn ?_ _) | (with_reducible refine Below.alloc ?_ ?_ _) | (with_reducible refine Below.drew ?_) | (with_reducible refine Below.setCell ?_ ?_ _) | go_size)))) h4 (by go_size)
      have z4_0 : w1.heap.size < w4.heap.size := by omega
      have q4_0 := fun o => (bcell B4_2).1 (w1.heap.size) o (by go_size)
      have f4_0 := fun o => (bcell B4_2).2 (w1.heap.size) o (by go_size)
      have H4 : Below v1.heap.size v1 w4 := bthen (by repeat' (first | (with_reducible exact Below.refl _ _) | (with_reducible assumption) | (with_reducible refine bdrawn ?_ _) | (with_reducible refine Below.alloc ?_ ?_ _) | (with_reducible refine Below.drew ?_) | (with_reducible refine Below.setCell ?_ ?_ _) | go_size)) h4 (by go_size)
      have C4 := (bcell H4).1; have F4 := (bcell H4).2
      have P4 : Below w3.heap.size w3 w4 := bthen (by repeat' (first | (with_reducible exact Below.refl _ _) | (with_reducible assumption) | (with_reducible refine bdrawn ?_ _) | (with_reducible refine Below.alloc ?_ ?_ _) | (with_reducible refine Below.drew ?_) | (with_reducible refine Below.setCell ?_ ?_ _) | go_size)) h4 (by go_size)
      replace x := hide (x.out.below P4 (by omega))
      replace y := hide (y.out.below P4 (by omega))
      go_wp2_with fail
      refine (laws_sameShare _ _ _ _ _ fs _ (isStructs_own shF_len (by omega) x.out.1) (HI.out.below H4 (Nat.le_refl _))).mono ?_
      rintro e w5 ⟨rfl, h5⟩
      have s5 := h5.size
      try simp only [World.size_alloc, World.size_setCell, World.size_drew, World.heap_drewN] at s5
      have B5_2 := bnext (by first | (with_reducible exact B4_2) | exact (bgrow B4_2 (by go_size) (by repeat' (first | (with_reducible exact Below.refl _ _) | (with_reducible assumption) | (with_reducible refine bdrawn ?_ _) | (with_reducible refine Below.alloc ?_ ?_ _) | (with_reducible refine Below.drew ?_) | (with_reducible refine Below.setCell ?_ ?_ _) | go_size)))) h5 (by go_size)
      have z5_0 : w1.heap.size < w5.heap.size := by omega
      have q5_0 := fun o => (bcell B5_2).1 (w1.heap.size) o (by go_size)
      have f5_0 := fun o => (bcell B5_2).2 (w1.heap.size) o (by go_size)
      have H5 : Below v1.heap.size v1 w5 := bthen (by repeat' (first | (with_reducible exact Below.refl _ _) | (with_reducible assumption) | (with_reducible refine bdrawn ?_ _) | (with_reducible refine Below.alloc ?_ ?_ _) | (with_reducible refine Below.drew ?_) | (with_reducible refine Below.setCell ?_ ?_ _) | go_size)) h5 (by go_size)
      have C5 := (bcell H5).1; have F5 := (bcell H5).2
      have P5 : Below w4.heap.size w4 w5 := bthen (by repeat' (first | (with_reducible exact Below.refl _ _) | (with_reducible assumption) | (with_reducible refine bdrawn ?_ _) | (with_reducible refine Below.alloc ?_ ?_ _) | (with_reducible refine Below.drew ?_) | (with_reducible refine Below.setCell ?_ ?_ _) | go_size)) h5 (by go_size)
      replace x := hide (x.out.below P5 (by omega))
      replace y := hide (y.out.below P5 (by omega))
      go_wp2_with fail
      go_ret
      exact ⟨rfl, bthen hV H5 hV.size⟩
  · go_enter Try.func4, Try.ntmps4
    go_wp2_with fail
    refine (laws_big_yes a n c _ hm hc hs).mono ?_
    rintro e w' ⟨rfl, rfl⟩
    go_wp2_with fail
    go_ret
    exact ⟨rfl, by go_grown⟩

set_option maxRecDepth 100000 in
theorem FnOnlyWaiting_lifted (os : Os) (started : os.Started) (H : Type) (enc : TypeId × Value → H) :
    ReturnsInHanded {} Try.checked os 4 .any (Rows.fnOnlyWaitingSpec.pre6 enc Try.prog Try.f4 Rows.fnOnlyWaitingRow.domain false) (Rows.fnOnlyWaitingSpec.post enc Try.prog Try.f4 false true false false) := by
  refine returnsInHanded_of_change (C := Try.checked) try_own started (by kernel_rfl) Try.func4
    (ChangeSpec.witness6 (enc := enc) (C := Try.checked) false ⟨#[], #[.slice none 0 0], []⟩ 8 (by kernel_rfl) (by kernel_rfl) (by kernel_rfl) (by kernel_rfl)) ?_
  intro W base args ds gs before hval0 hW _ _
  have hval : ∀ (j : Nat) t v, Try.f4.params[j]? = some t → args[j]? = some v → Value.okWide Try.prog W .any base t v := hval0
  have hW' := hW
  obtain ⟨p, q, hA0, hV, rfl, hfz, hnd⟩ := hW
  have hA : DataW.TrodAll enc Try.prog W 0 (fun _ => true) true Try.f4.params.toList args.toList ds p := hA0
  rw [Try.params4] at hA hval
  obtain ⟨v0, vs0, d0, ds0, p0, q0, hargs, rfl, rfl, h0, r0⟩ := trodAll_cons hA
  obtain ⟨rfl, rfl, rfl⟩ := trodAll_nil r0
  obtain rfl : args = #[v0] := by cases args; simp_all
  obtain ⟨rfl, rfl⟩ := trodVars_none hV
  have k0 := h0
  have lt0 : ∀ x ∈ p0, x.block < W.heap.size := by obtain ⟨m, hm⟩ := k0; exact DataW.trod_lt m _ _ _ hm
  obtain ⟨b_x0, m_x0, l_x0, rfl⟩ := okWide_slice Try.underlying22 (hval 0 22 v0 rfl rfl)
  obtain ⟨fu0, h0⟩ := h0
  obtain ⟨a_x0, n_x0, c_x0, x0, e_x0, w_x0⟩ := isBytes_of Try.underlying22 Try.underlying5 (by kernel_rfl) h0
  simp only [Value.cells, List.cons.injEq, and_true] at e_x0
  obtain ⟨q1, q2, q3⟩ : b_x0 = a_x0 ∧ m_x0 = n_x0 ∧ l_x0 = c_x0 := by simpa using e_x0
  replace q1 := q1.symm; replace q2 := q2.symm; replace q3 := q3.symm; subst q1 q2 q3
  clear hA0 hval0
  refine (FnOnlyWaiting_walk a_x0 n_x0 c_x0 x0 W w_x0).mono fun e W' ⟨he, bel⟩ => ?_
  subst he
  exact ⟨_, rfl, _, _, _, [], _, [], hW', trodAll_mk1 (shut_bool Try.underlying4 _), (trodAll_cons_mk (Below.trod try_laidOut (by kernel_rfl) (of_decide_eq_true (by kernel_rfl)) k0 bel lt0) trodAll_mk0), rfl, bel.frame _, fun h => by cases h⟩

theorem FnOnlyWaiting_holds : Rows.FnOnlyWaitingSaid :=
  OpenClaim.holds_of_wide 4 Try.f4 rfl rfl rfl rfl rfl rfl rfl ⟨rfl, rfl, rfl, rfl, rfl⟩ rfl rfl rfl rfl rfl (by kernel_rfl) Try.func4 (by kernel_rfl)
    (of_decide_eq_true (by kernel_rfl)) (by unfold Func.isWrapper; rw [if_neg (of_decide_eq_false (by kernel_rfl))]; exact ⟨rfl, rfl⟩)
    (fun os started H enc _ => FnOnlyWaiting_lifted os started H enc)
#print axioms FnOnlyWaiting_holds
end Go.Proofs.Ytahfbhfmhccgoaa
