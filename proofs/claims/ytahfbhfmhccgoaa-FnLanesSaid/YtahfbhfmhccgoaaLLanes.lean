/- A delay that passes on all lanes passes on each of them: for every drawn input FnLanes answers true. No condition. -/
import Derived.Test.YtahfbhfmhccgoaaLanes
import Derived.Test.YtahfbhfmhccgoaaCommon2
import Derived.Test.YtahfbhfmhccgoaaWindows
set_option linter.unusedSimpArgs false
set_option linter.unusedVariables false
namespace Go.Proofs.Ytahfbhfmhccgoaa
open Go.RowKit Go.ChangeShapes Go.WideShapes Go.ChangeAt Go.Joins Go.Deep
open Go.ChangeMaps (open_string shut_string)
theorem com_at {xss : List (List Bool)} {d : Nat} (h : (com xss)[d]? = some true) : ∀ r ∈ xss, r[d]? = some true := by
  cases xss with
  | nil => simp [com] at h
  | cons r0 rs =>
    rw [com_cons] at h
    by_cases hc : r0.length ≤ 64 ∧ comOk (r0 :: rs) r0.length = true
    · rw [if_pos hc] at h
      have key : ∀ (ys : List (List Bool)) (acc : List Bool), (ys.foldl andL acc)[d]? = some true → acc[d]? = some true ∧ ∀ r ∈ ys, r[d]? = some true := by
        intro ys
        induction ys with
        | nil => intro acc h; exact ⟨h, by simp⟩
        | cons y ys ih =>
          intro acc h
          obtain ⟨h1, h2⟩ := ih _ h
          unfold andL at h1
          rw [List.getElem?_zipWith] at h1
          cases ha : acc[d]? with
          | none => simp [ha] at h1
          | some x =>
            cases hy : y[d]? with
            | none => simp [ha, hy] at h1
            | some z =>
              simp [ha, hy] at h1
              obtain ⟨rfl, rfl⟩ := h1
              exact ⟨rfl, fun r hr => by rcases List.mem_cons.1 hr with rfl | hr; exact hy; exact h2 r hr⟩
      exact (key _ _ h).2
    · rw [if_neg hc] at h; simp at h
set_option maxHeartbeats 400000 in
theorem laws_sameBools (a b : Option Addr) (n c c' : Nat) (zs : List Bool) (w : World) (ha : IsBools w a n c zs) (hb : IsBools w b n c' zs) :
    Calls Try.prog 18 #[.slice a n c, .slice b n c'] w fun e w' => e = .returned (.bool true) ∧ Below w.heap.size w w' := by
  obtain ⟨hn, hc, hm, hr⟩ := ha
  obtain ⟨hn', hc', hm', hr'⟩ := hb
  unfold maxLen at hm
  have Hr := hide hr; have Hr' := hide hr'
  clear hr hr'
  go_enter Try.func18, Try.ntmps18
  go_wp2
  go_loopw [5] (fun i wr => ∃ k : Nat, k ≤ n ∧ i = .int .i64 k ∧ Below w.heap.size w wr) (fun i _ => n - (intOf i).toNat)
  case atStart => exact ⟨0, by omega, rfl, Below.refl _ _⟩
  case round =>
    obtain ⟨k, hk, rfl, hB⟩ := hrel
    by_cases hlt : k < n
    · obtain ⟨b1, o1, rfl, hc1⟩ := Hr.out k _ (getB_lt (by omega))
      obtain ⟨b2, o2, rfl, hc2⟩ := Hr'.out k _ (getB_lt (by omega))
      have e1 := (hB.cell (p := ⟨b1, o1 + k, none⟩) (World.block_lt_of_cell? w _ hc1)).trans hc1
      have e2 := (hB.cell (p := ⟨b2, o2 + k, none⟩) (World.block_lt_of_cell? w _ hc2)).trans hc2
      clear hc1 hc2
      have h1 : (0 : Int) ≤ (k : Int) := by omega
      have h2 : (k : Int) < (n : Int) := by omega
      go_wp2_with fail
      go_quiet (fail)
      go_wp2
      go_roundw
      case rel => exact ⟨k + 1, by omega, by go_num, bdrawn hB _⟩
      case measure => simp [intOf]; omega
    · go_wp2
      go_ret
      exact ⟨rfl, hB⟩


theorem best_pos {xs : List Bool} (h : xs.length ≤ 64) (hd : 0 ≤ bestOf (ww xs)) : ∃ d : Nat, bestOf (ww xs) = d ∧ xs[d]? = some true := by
  obtain ⟨f, l, e, hfl, hon, _⟩ := ww_inv xs h
  rw [e] at hd ⊢
  unfold bestOf at hd ⊢
  simp only at hd ⊢
  by_cases hl : l = 0
  · subst hl; simp at hd
  · rw [if_neg (by simp; omega)]
    refine ⟨f + (l - 1) / 2, by omega, ?_⟩
    exact hon ((l - 1) / 2) (by omega)
theorem best_is (a : Option Addr) (n c : Nat) (zs : List Bool) (d : Int) (h : bestOf (ww zs) = d) (w : World) (ha : IsBools w a n c zs) (hs : n ≤ 1048576) :
    Calls Try.prog 17 #[.slice a n c] w fun e w' => e = .returned (.int .i64 d) ∧ Below w.heap.size w w' := by subst h; exact impl_BestDelay a n c zs w ha hs
theorem cell_at (w : World) (b : Nat) (cs : Array Value) (e : TypeId) (h : w.heap[b]? = some (.cells cs e)) (i : Nat) (v : Value) (hv : cs[i]? = some v) : w.cell? ⟨b, i, none⟩ = some v := by
  simp [World.cell?, h, hv]
theorem row_at (w : World) (b : Nat) (cs : List Value) (e : TypeId) (h : w.heap[b]? = some (.cells cs.toArray e)) : RowIn w (some ⟨b, 0, none⟩) cs := by
  intro i v hv
  exact ⟨b, 0, rfl, by rw [Nat.zero_add]; exact cell_at w b _ e h i v (by simpa using hv)⟩
def litW (w : World) : World := ((w.alloc (.cells #[.bool true, .bool false] 4)).alloc (.cells #[.bool true, .bool true] 4)).alloc (.cells #[.slice (some ⟨w.heap.size, 0, none⟩) 2 2, .slice (some ⟨w.heap.size + 1, 0, none⟩) 2 2] 26)
theorem lit_nest (w : World) : IsNest .bool (litW w) (some ⟨w.heap.size + 1 + 1, 0, none⟩) 2 2 [⟨some ⟨w.heap.size, 0, none⟩, 2, 2⟩, ⟨some ⟨w.heap.size + 1, 0, none⟩, 2, 2⟩] [[true, false], [true, true]] := by
  refine ⟨rfl, Nat.le_refl _, by unfold maxLen; omega, ?_, rfl, ?_⟩
  · exact row_at _ _ [.slice (some ⟨w.heap.size, 0, none⟩) 2 2, .slice (some ⟨w.heap.size + 1, 0, none⟩) 2 2] 26 (show (litW w).heap[_]? = _ from alloc_at _ _ _ (by simp only [World.size_alloc]))
  · intro i h xs h1 h2
    match i with
    | 0 =>
      simp at h1 h2; subst h1 h2
      exact ⟨rfl, Nat.le_refl _, show 2 ≤ maxLen by unfold maxLen; omega, row_at _ _ [.bool true, .bool false] 4 (show (litW w).heap[_]? = _ from (alloc_lt _ _ _ (by simp only [World.size_alloc]; omega)).trans ((alloc_lt _ _ _ (by simp only [World.size_alloc]; omega)).trans (alloc_at _ _ _ rfl)))⟩
    | 1 =>
      simp at h1 h2; subst h1 h2
      exact ⟨rfl, Nat.le_refl _, show 2 ≤ maxLen by unfold maxLen; omega, row_at _ _ [.bool true, .bool true] 4 (show (litW w).heap[_]? = _ from (alloc_lt _ _ _ (by simp only [World.size_alloc]; omega)).trans (alloc_at _ _ _ (by simp only [World.size_alloc])))⟩
    | i + 2 => simp at h1
theorem lit_bools (w : World) : IsBools (w.alloc (.cells #[.bool true, .bool false] 4)) (some ⟨w.heap.size, 0, none⟩) 2 2 [true, false] :=
  ⟨rfl, Nat.le_refl _, by unfold maxLen; omega, row_at _ _ [.bool true, .bool false] 4 (alloc_at _ _ _ rfl)⟩
theorem lit_below (w : World) : Below w.heap.size w (litW w) := by unfold litW; exact (by repeat' (first | (with_reducible exact Below.refl _ _) | (with_reducible assumption) | (with_reducible refine bdrawn ?_ _) | (with_reducible refine Below.alloc ?_ ?_ _) | (with_reducible refine Below.drew ?_) | (with_reducible refine Below.setCell ?_ ?_ _) | go_size))
set_option maxRecDepth 100000 in
set_option maxHeartbeats 2000000 in
theorem FnLanes_walk (a : Option Addr) (n c : Nat) (zs : List Int) (w : World) (ha : IsInts .u8 w a n c zs) :
    Calls Try.prog 3 #[.slice a n c] w fun e w' => e = .returned (.bool true) ∧ Below w.heap.size w w' := by
  have hm : c ≤ 9223372036854775807 := ha.2.2.1
  have hc := ha.2.1
  by_cases hs : n ≤ 1048576
  · have HA := hide ha
    clear ha
    go_enter Try.func3, Try.ntmps3
    go_wp2_with fail
    refine (laws_big a n c _ hs).mono ?_
    rintro e w' ⟨rfl, rfl⟩
    go_wp2_with fail
    refine (spec_DrawCommonPass a n c _ _ HA.out hs).mono ?_
    rintro e v1 ⟨la, ln, lc, gs, xss, hl3, rfl, hnest, hV⟩
    have HN := hide hnest
    have hlc := hnest.2.1; have hlm : lc ≤ 9223372036854775807 := hnest.2.2.1
    clear hnest
    obtain ⟨N, hN'⟩ : ∃ N, (com xss).length = N := ⟨_, rfl⟩
    have hN64 : N ≤ 64 := by rw [← hN']; exact com_le xss
    have hN := hide hN'
    obtain ⟨d, hd'⟩ : ∃ d, bestOf (ww (com xss)) = d := ⟨_, rfl⟩
    have hd := hide hd'
    clear hN' hd'
    go_wp2_with fail
    refine (impl_CommonPass _ _ _ _ xss N _ HN.out (by omega) hN.out).mono ?_
    rintro e w1 ⟨a1, c1, rfl, o1, h1⟩
    have s1 := h1.size
    try simp only [World.size_alloc, World.size_setCell, World.size_drew, World.heap_drewN] at s1
    have H1 : Below v1.heap.size v1 w1 := bthen (by repeat' (first | (with_reducible exact Below.refl _ _) | (with_reducible assumption) | (with_reducible refine bdrawn ?_ _) | (with_reducible refine Below.alloc ?_ ?_ _) | (with_reducible refine Below.drew ?_) | (with_reducible refine Below.setCell ?_ ?_ _) | go_size)) h1 (by go_size)
    have C1 := (bcell H1).1; have F1 := (bcell H1).2
    have x := hide (Owned.of_own o1)
    clear o1
    go_wp2_with fail
    refine (spec_CommonPass _ _ _ _ xss N _ (HN.out.below H1 (Nat.le_refl _)) (by omega) hN.out).mono ?_
    rintro e w2 ⟨a2, c2, rfl, o2, h2⟩
    have s2 := h2.size
    try simp only [World.size_alloc, World.size_setCell, World.size_drew, World.heap_drewN] at s2
    have H2 : Below v1.heap.size v1 w2 := bthen (by repeat' (first | (with_reducible exact Below.refl _ _) | (with_reducible assumption) | (with_reducible refine bdrawn ?_ _) | (with_reducible refine Below.alloc ?_ ?_ _) | (with_reducible refine Below.drew ?_) | (with_reducible refine Below.setCell ?_ ?_ _) | go_size)) h2 (by go_size)
    have C2 := (bcell H2).1; have F2 := (bcell H2).2
    have P2 : Below w1.heap.size w1 w2 := bthen (by repeat' (first | (with_reducible exact Below.refl _ _) | (with_reducible assumption) | (with_reducible refine bdrawn ?_ _) | (with_reducible refine Below.alloc ?_ ?_ _) | (with_reducible refine Below.drew ?_) | (with_reducible refine Below.setCell ?_ ?_ _) | go_size)) h2 (by go_size)
    replace x := hide (x.out.below P2 (by omega))
    have q := hide (Owned.of_own o2)
    clear o2
    go_wp2_with fail
    refine (best_is _ _ _ (com xss) d hd.out _ (isBools_own x.out.1) (by omega)).mono ?_
    rintro e w3 ⟨rfl, h3⟩
    have s3 := h3.size
    try simp only [World.size_alloc, World.size_setCell, World.size_drew, World.heap_drewN] at s3
    have H3 : Below v1.heap.size v1 w3 := bthen (by repeat' (first | (with_reducible exact Below.refl _ _) | (with_reducible assumption) | (with_reducible refine bdrawn ?_ _) | (with_reducible refine Below.alloc ?_ ?_ _) | (with_reducible refine Below.drew ?_) | (with_reducible refine Below.setCell ?_ ?_ _) | go_size)) h3 (by go_size)
    have C3 := (bcell H3).1; have F3 := (bcell H3).2
    have P3 : Below w2.heap.size w2 w3 := bthen (by repeat' (first | (with_reducible exact Below.refl _ _) | (with_reducible assumption) | (with_reducible refine bdrawn ?_ _) | (with_reducible refine Below.alloc ?_ ?_ _) | (with_reducible refine Below.drew ?_) | (with_reducible refine Below.setCell ?_ ?_ _) | go_size)) h3 (by go_size)
    replace x := hide (x.out.below P3 (by omega))
    replace q := hide (q.out.below P3 (by omega))
    go_wp2_with fail
    obtain ⟨x3, rfl⟩ : ∃ W : World, W = w3 := ⟨_, rfl⟩
    have HX3 := hide (HN.out.below H3 (Nat.le_refl _))
    go_loopw [7] (fun i wr => ∃ k : Nat, k ≤ ln ∧ i = .int .i64 k ∧ Below x3.heap.size x3 wr) (fun i _ => ln - (intOf i).toNat)
    case atStart => exact ⟨0, by omega, rfl, Below.refl _ _⟩
    case round =>
      obtain ⟨k, hk, rfl, hB⟩ := hrel
      have hsr := hB.size
      by_cases hlt : k < ln ∧ 0 ≤ d
      · obtain ⟨hlt, hd0⟩ := hlt
        obtain ⟨D, hD, hDt⟩ := best_pos (xs := com xss) (by rw [hN.out]; exact hN64) (by rw [hd.out]; exact hd0)
        obtain rfl : d = (D : Int) := by rw [← hd.out, hD]
        obtain ⟨h, r, b1, o1, hh, hr, rfl, hlb, hcell, hrow⟩ := HX3.out.get hlt
        obtain ⟨ra, rn, rc⟩ := h
        have hrD := com_at hDt r (List.mem_of_getElem? hr)
        have hDl : D < rn := by have := (List.getElem?_eq_some_iff.1 hrD).1; rw [hrow.1] at this; exact this
        obtain ⟨z, b2, o2, hz, hzb, hlb2, hcz⟩ := hrow.2.2.2.get (k := D) (by rw [hrow.1]; exact hDl)
        rw [hrD] at hz
        injection hz with hz
        subst hz
        simp only at hzb
        subst hzb
        have hrc := hrow.2.1; have hrm : rc ≤ 9223372036854775807 := hrow.2.2.1
        simp only at hrc
        have e0 := (hB.cell (p := ⟨b1, o1 + k, none⟩) hlb).trans hcell
        have e1 := (hB.cell (p := ⟨b2, o2 + D, none⟩) hlb2).trans hcz
        have i0 : (0 : Int) ≤ (k : Int) := by omega
        have i1 : (k : Int) < (ln : Int) := by omega
        have i2 : (D : Int) < (rn : Int) := by omega
        have l1 : b1 < wr.heap.size := by omega
        have l2 : b2 < wr.heap.size := by omega
        clear hcell hcz hh hr hrow hrD hDt hD
        go_wp2_with fail
        go_roundw
        case rel => exact ⟨k + 1, by omega, by go_num, hB⟩
        case measure => simp [intOf]; omega
      · have x4 := hide (x.out.below hB (by omega)); have q4 := hide (q.out.below hB (by omega))
        by_cases hlt2 : k < ln
        all_goals
          go_wp2_with fail
          refine (laws_sameBools _ _ _ _ _ _ _ (isBools_own x4.out.1) (isBools_own q4.out.1)).mono ?_
          rintro e y1 ⟨rfl, hy1⟩
          go_wp2_with fail
          refine (impl_CommonPass _ _ _ _ _ 2 _ (lit_nest y1) (by omega) rfl).mono ?_
          rintro e y2 ⟨a5, c5, rfl, ho5, hy2⟩
          have hb2 : IsBools y2 a5 2 c5 [true, false] := isBools_own ho5
          go_wp2_with fail
          refine (laws_sameBools _ _ _ _ _ _ _ (hb2.below (Below.refl _ _ |>.alloc (Nat.le_refl _) _) (Nat.le_refl _)) (lit_bools y2)).mono ?_
          rintro e y3 ⟨rfl, hy3⟩
          go_wp2_with fail
          go_ret
          have t1 : Below y1.heap.size y1 (litW y1) := lit_below y1
          have t2 : Below y2.heap.size y2 (y2.alloc (.cells #[.bool true, .bool false] 4)) := (by repeat' (first | (with_reducible exact Below.refl _ _) | (with_reducible assumption) | (with_reducible refine bdrawn ?_ _) | (with_reducible refine Below.alloc ?_ ?_ _) | (with_reducible refine Below.drew ?_) | (with_reducible refine Below.setCell ?_ ?_ _) | go_size))
          have s1 := t1.size; have s2 := t2.size; have s3 := hy2.size; have s4 := hy1.size; have s0 := hV.size
          have hall := bthen (bthen (bthen (bthen (bthen (bthen (bthen hV H3 (by omega)) hB (by omega)) hy1 (by omega)) t1 (by omega)) hy2 (by omega)) t2 (by omega)) hy3 (by omega)
          exact ⟨rfl, hall⟩
  · go_enter Try.func3, Try.ntmps3
    go_wp2_with fail
    refine (laws_big_yes a n c _ hm hc hs).mono ?_
    rintro e w' ⟨rfl, rfl⟩
    go_wp2_with fail
    go_ret
    exact ⟨rfl, by go_grown⟩

set_option maxRecDepth 100000 in
theorem FnLanes_lifted (os : Os) (started : os.Started) (H : Type) (enc : TypeId × Value → H) :
    ReturnsInHanded {} Try.checked os 3 .any (Rows.fnLanesSpec.pre6 enc Try.prog Try.f3 Rows.fnLanesRow.domain false) (Rows.fnLanesSpec.post enc Try.prog Try.f3 false true false false) := by
  refine returnsInHanded_of_change (C := Try.checked) try_own started (by kernel_rfl) Try.func3
    (ChangeSpec.witness6 (enc := enc) (C := Try.checked) false ⟨#[], #[.slice none 0 0], []⟩ 8 (by kernel_rfl) (by kernel_rfl) (by kernel_rfl) (by kernel_rfl)) ?_
  intro W base args ds gs before hval0 hW _ _
  have hval : ∀ (j : Nat) t v, Try.f3.params[j]? = some t → args[j]? = some v → Value.okWide Try.prog W .any base t v := hval0
  have hW' := hW
  obtain ⟨p, q, hA0, hV, rfl, hfz, hnd⟩ := hW
  have hA : DataW.TrodAll enc Try.prog W 0 (fun _ => true) true Try.f3.params.toList args.toList ds p := hA0
  rw [Try.params3] at hA hval
  obtain ⟨v0, vs0, d0, ds0, p0, q0, hargs, rfl, rfl, h0, r0⟩ := trodAll_cons hA
  obtain ⟨rfl, rfl, rfl⟩ := trodAll_nil r0
  obtain rfl : args = #[v0] := by cases args; simp_all
  obtain ⟨rfl, rfl⟩ := trodVars_none hV
  have k0 := h0
  have lt0 : ∀ x ∈ p0, x.block < W.heap.size := by obtain ⟨m, hm⟩ := k0; exact DataW.trod_lt m _ _ _ hm
  obtain ⟨b_x0, m_x0, l_x0, rfl⟩ := okWide_slice Try.underlying22 (hval 0 22 v0 rfl rfl)
  obtain ⟨fu0, h0⟩ := h0
  obtain ⟨a_x0, n_x0, c_x0, x0, e_x0, w_x0⟩ := isBytes_of Try.underlying22 Try.underlying5 (by kernel_rfl) h0
  simp only [Value.cells, List.cons.injEq, and_true] at e_x0
  obtain ⟨q1, q2, q3⟩ : b_x0 = a_x0 ∧ m_x0 = n_x0 ∧ l_x0 = c_x0 := by simpa using e_x0
  replace q1 := q1.symm; replace q2 := q2.symm; replace q3 := q3.symm; subst q1 q2 q3
  clear hA0 hval0
  refine (FnLanes_walk a_x0 n_x0 c_x0 x0 W w_x0).mono fun e W' ⟨he, bel⟩ => ?_
  subst he
  exact ⟨_, rfl, _, _, _, [], _, [], hW', trodAll_mk1 (shut_bool Try.underlying4 _), (trodAll_cons_mk (Below.trod try_laidOut (by kernel_rfl) (of_decide_eq_true (by kernel_rfl)) k0 bel lt0) trodAll_mk0), rfl, bel.frame _, fun h => by cases h⟩

theorem FnLanes_holds : Rows.FnLanesSaid :=
  OpenClaim.holds_of_wide 3 Try.f3 rfl rfl rfl rfl rfl rfl rfl ⟨rfl, rfl, rfl, rfl, rfl⟩ rfl rfl rfl rfl rfl (by kernel_rfl) Try.func3 (by kernel_rfl)
    (of_decide_eq_true (by kernel_rfl)) (by unfold Func.isWrapper; rw [if_neg (of_decide_eq_false (by kernel_rfl))]; exact ⟨rfl, rfl⟩)
    (fun os started H enc _ => FnLanes_lifted os started H enc)
#print axioms FnLanes_holds
end Go.Proofs.Ytahfbhfmhccgoaa
