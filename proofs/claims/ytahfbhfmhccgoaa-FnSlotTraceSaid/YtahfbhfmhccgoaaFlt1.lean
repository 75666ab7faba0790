/- The program's commands, gaps between them, and groups of banks. -/
import Derived.Test.YtahfbhfmhccgoaaFltP
import Derived.Deep.RegionHeld3
set_option linter.unusedSimpArgs false
set_option linter.unusedVariables false
namespace Go.Proofs.Ytahfbhfmhccgoaa
open Go.RowKit Go.ChangeShapes Go.WideShapes Go.ChangeAt Go.Joins Go.Deep
open Go.ChangeMaps (open_string shut_string)
theorem btw_eqv (f : FuncId) (x a b : Int) (v : Bool) (w : World) (hv : btw x a b = v) (h : Calls Try.prog f #[.int .i64 x, .int .i64 a, .int .i64 b] w fun e w' => e = .returned (.bool (btw x a b)) ∧ w = w') :
    Calls Try.prog f #[.int .i64 x, .int .i64 a, .int .i64 b] w fun e w' => e = .returned (.bool v) ∧ w = w' := by subst hv; exact h
theorem impl_usesBank (k : Int) (v : Bool) (h : btw k 1 5 = v) (w : World) : Calls Try.prog 146 #[.int .i64 k] w fun e w' => e = .returned (.bool v) ∧ Below w.heap.size w w' := by
  go_enter Try.func146, Try.ntmps146
  go_wp2_with (go_at_call 77; refine (btw_eqv 77 _ _ _ v _ h (impl_between _ _ _ _)).mono ?_; rintro e w1 ⟨rfl, rfl⟩)
  go_ret
  exact ⟨rfl, Below.refl _ _⟩
theorem impl_usesRow (k : Int) (v : Bool) (h : (k == 1) = v) (w : World) : Calls Try.prog 147 #[.int .i64 k] w fun e w' => e = .returned (.bool v) ∧ Below w.heap.size w w' := by
  go_enter Try.func147, Try.ntmps147
  go_wp2_with fail
  go_ret
  exact ⟨rfl, Below.refl _ _⟩
theorem impl_usesCol (k : Int) (v : Bool) (h : (k == 2 || k == 3) = v) (w : World) : Calls Try.prog 148 #[.int .i64 k] w fun e w' => e = .returned (.bool v) ∧ Below w.heap.size w w' := by
  have H := hide h; clear h
  go_enter Try.func148, Try.ntmps148
  go_wp2_with fail
  all_goals go_ret
  all_goals (have h := H.out; refine ⟨ret_bool ?_, Below.refl _ _⟩; subst h; simp_all)
def fldOk (z : Int) (u : Bool) (l : Int) : Bool := if u = true then btw z 0 (l - 1) else z == 0
theorem impl_fieldOk (z l : Int) (u : Bool) (w : World) (h : fldOk z u l = true) (h1 : -1000 ≤ l) (h2 : l ≤ 1000) : Calls Try.prog 145 #[.int .i64 z, .bool u, .int .i64 l] w fun e w' => e = .returned (.bool true) ∧ Below w.heap.size w w' := by
  unfold fldOk at h
  cases u
  · simp at h
    subst h
    go_enter Try.func145, Try.ntmps145
    go_wp2_with fail
    go_ret
    exact ⟨rfl, Below.refl _ _⟩
  · simp only [if_true] at h
    go_enter Try.func145, Try.ntmps145
    go_wp2_with (go_at_call 77; refine (btw_eqv 77 _ _ _ true _ h (impl_between _ _ _ _)).mono ?_; rintro e w1 ⟨rfl, rfl⟩)
    go_ret
    exact ⟨rfl, Below.refl _ _⟩
set_option maxRecDepth 100000 in
set_option maxHeartbeats 4000000 in
theorem impl_wellFormed (nb rows cols k b r c : Int) (w : World) (h : CmdIs nb rows cols k b r c) (h1 : nb ≤ 1000) (h2 : 0 ≤ rows ∧ rows ≤ 1000) (h3 : 0 ≤ cols ∧ cols ≤ 1000) :
    Calls Try.prog 129 #[.agg #[.int .i64 k, .int .i64 b, .int .i64 r, .int .i64 c], .int .i64 nb, .int .i64 rows, .int .i64 cols] w fun e w' => e = .returned (.bool true) ∧ Below w.heap.size w w' := by
  obtain ⟨hb, hk⟩ := h
  obtain ⟨v1, hv1⟩ : ∃ v, (k == 1) = v := ⟨_, rfl⟩
  obtain ⟨v2, hv2⟩ : ∃ v, (k == 2 || k == 3) = v := ⟨_, rfl⟩
  have k9 : btw k 1 9 = true := btw_mk (by omega) (by omega)
  have k5 : btw k 1 5 = true := btw_mk (by omega) (by omega)
  have f1 : fldOk b true nb = true := by unfold fldOk; rw [if_pos rfl]; exact btw_mk hb.1 (by omega)
  have f2 : fldOk r v1 rows = true := by
    unfold fldOk; subst hv1
    rcases hk with ⟨rfl, hr, _⟩ | ⟨rfl, rfl, _⟩ | ⟨rfl, rfl, _⟩ | ⟨rfl, rfl, _⟩
    · exact btw_mk hr.1 (by omega)
    all_goals rfl
  have f3 : fldOk c v2 cols = true := by
    unfold fldOk; subst hv2
    rcases hk with ⟨rfl, _, rfl⟩ | ⟨rfl, _, hc⟩ | ⟨rfl, _, hc⟩ | ⟨rfl, _, rfl⟩
    · rfl
    · exact btw_mk hc.1 (by omega)
    · exact btw_mk hc.1 (by omega)
    · rfl
  have nb0 : -1000 ≤ nb := by omega
  have r0 : -1000 ≤ rows := by omega
  have c0 : -1000 ≤ cols := by omega
  have r1 := h2.2; have c1 := h3.2
  have HF := hide (And.intro (And.intro k9 k5) (And.intro hv1 (And.intro hv2 (And.intro f1 (And.intro f2 f3)))))
  clear hb hk hv1 hv2 k9 k5 f1 f2 f3 h2 h3
  go_enter Try.func129, Try.ntmps129
  go_wp2_with fail
  have kc : (w.alloc (.cells #[.int .i64 k, .int .i64 b, .int .i64 r, .int .i64 c] 91)).heap[w.heap.size]? = some (.cells #[.int .i64 k, .int .i64 b, .int .i64 r, .int .i64 c] 91 (0, 0)) := alloc_at _ _ _ rfl
  have hB : Below w.heap.size w (w.alloc (.cells #[.int .i64 k, .int .i64 b, .int .i64 r, .int .i64 c] 91)) := by go_grown
  generalize (w.alloc (.cells #[.int .i64 k, .int .i64 b, .int .i64 r, .int .i64 c] 91)) = W at *
  have HB := hide hB
  have KEEP := hide (show ∀ v, Below W.heap.size W v → v.cell? ⟨w.heap.size, 0, none⟩ = some (.int .i64 k) ∧ v.cell? ⟨w.heap.size, 1, none⟩ = some (.int .i64 b) ∧ v.cell? ⟨w.heap.size, 2, none⟩ = some (.int .i64 r) ∧ v.cell? ⟨w.heap.size, 3, none⟩ = some (.int .i64 c) ∧ Below W.heap.size W v from fun v hb =>
    have h1 := (hb.block _ (lt_blk kc)).trans kc
    ⟨cell_blk h1 0, cell_blk h1 1, cell_blk h1 2, cell_blk h1 3, hb⟩)
  clear hB kc
  refine wp_region_held_drew (S := fun v => v.cell? ⟨w.heap.size, 0, none⟩ = some (.int .i64 k) ∧ v.cell? ⟨w.heap.size, 1, none⟩ = some (.int .i64 b) ∧ v.cell? ⟨w.heap.size, 2, none⟩ = some (.int .i64 r) ∧ v.cell? ⟨w.heap.size, 3, none⟩ = some (.int .i64 c) ∧ Below W.heap.size W v) (by kernel_rfl) (KEEP.out _ (Below.refl _ _).drew) (fun hSx => ?_)
  refine wpAnyH_take (i := 0) (v := ?_) rfl (by kernel_rfl) (by kernel_rfl) (by kernel_rfl) (fun _ _ _ h => h) (Or.inl ⟨by rfl, ?_⟩) (by assumption) ?_
  rotate_left
  · intro w hSw; (try dsimp only at hSw); go_simp; try with_reducible rfl
  try simp only [Act.put, List.getElem_toArray, List.getElem_cons_zero, List.getElem_cons_succ, List.setIfInBounds_toArray, List.set_cons_zero, List.set_cons_succ]
  refine wpAnyH_take (i := 1) (v := ?_) rfl (by kernel_rfl) (by kernel_rfl) (by kernel_rfl) (fun _ _ _ h => h) (Or.inl ⟨by rfl, ?_⟩) (by assumption) ?_
  rotate_left
  · intro w hSw; (try dsimp only at hSw); go_simp; try with_reducible rfl
  try simp only [Act.put, List.getElem_toArray, List.getElem_cons_zero, List.getElem_cons_succ, List.setIfInBounds_toArray, List.set_cons_zero, List.set_cons_succ]
  refine wpAnyH_ready (rs := [2]) (by kernel_rfl) (by simp) ?_
  refine AllReadyH.cons rfl (fun K hK => ?_) AllReadyH.nil
  go_simp
  refine (btw_is 77 k 1 9 true _ HF.out.1.1 (impl_between _ _ _ _)).mono ?_
  rintro e y1 ⟨rfl, hy1⟩
  refine hK.out _ _ (KEEP.out _ (bthenS2 hSx.2.2.2.2 hy1)) (fun hSy => ?_)
  clear hSx hK K
  have hSx := hSy; clear hSy
  try simp only [Act.put, List.getElem_toArray, List.getElem_cons_zero, List.getElem_cons_succ, List.setIfInBounds_toArray, List.set_cons_zero, List.set_cons_succ]
  refine wpAnyH_take (i := 3) (v := ?_) rfl (by kernel_rfl) (by kernel_rfl) (by kernel_rfl) (fun _ _ _ h => h) (Or.inl ⟨by rfl, ?_⟩) (by assumption) ?_
  rotate_left
  · intro w hSw; (try dsimp only at hSw); go_simp; try with_reducible rfl
  try simp only [Act.put, List.getElem_toArray, List.getElem_cons_zero, List.getElem_cons_succ, List.setIfInBounds_toArray, List.set_cons_zero, List.set_cons_succ]
  refine wpAnyH_take (i := 4) (v := ?_) rfl (by kernel_rfl) (by kernel_rfl) (by kernel_rfl) (fun _ _ _ h => h) (Or.inl ⟨by rfl, ?_⟩) (by assumption) ?_
  rotate_left
  · intro w hSw; (try dsimp only at hSw); go_simp; try with_reducible rfl
  try simp only [Act.put, List.getElem_toArray, List.getElem_cons_zero, List.getElem_cons_succ, List.setIfInBounds_toArray, List.set_cons_zero, List.set_cons_succ]
  refine wpAnyH_take (i := 5) (v := ?_) rfl (by kernel_rfl) (by kernel_rfl) (by kernel_rfl) (fun _ _ _ h => h) (Or.inl ⟨by rfl, ?_⟩) (by assumption) ?_
  rotate_left
  · intro w hSw; (try dsimp only at hSw); go_simp; try with_reducible rfl
  try simp only [Act.put, List.getElem_toArray, List.getElem_cons_zero, List.getElem_cons_succ, List.setIfInBounds_toArray, List.set_cons_zero, List.set_cons_succ]
  refine wpAnyH_take (i := 6) (v := ?_) rfl (by kernel_rfl) (by kernel_rfl) (by kernel_rfl) (fun _ _ _ h => h) (Or.inl ⟨by rfl, ?_⟩) (by assumption) ?_
  rotate_left
  · intro w hSw; (try dsimp only at hSw); go_simp; try with_reducible rfl
  try simp only [Act.put, List.getElem_toArray, List.getElem_cons_zero, List.getElem_cons_succ, List.setIfInBounds_toArray, List.set_cons_zero, List.set_cons_succ]
  refine wpAnyH_take (i := 7) (v := ?_) rfl (by kernel_rfl) (by kernel_rfl) (by kernel_rfl) (fun _ _ _ h => h) (Or.inl ⟨by rfl, ?_⟩) (by assumption) ?_
  rotate_left
  · intro w hSw; (try dsimp only at hSw); go_simp; try with_reducible rfl
  try simp only [Act.put, List.getElem_toArray, List.getElem_cons_zero, List.getElem_cons_succ, List.setIfInBounds_toArray, List.set_cons_zero, List.set_cons_succ]
  refine wpAnyH_take (i := 9) (v := ?_) rfl (by kernel_rfl) (by kernel_rfl) (by kernel_rfl) (fun _ _ _ h => h) (Or.inl ⟨by rfl, ?_⟩) (by assumption) ?_
  rotate_left
  · intro w hSw; (try dsimp only at hSw); go_simp; try with_reducible rfl
  try simp only [Act.put, List.getElem_toArray, List.getElem_cons_zero, List.getElem_cons_succ, List.setIfInBounds_toArray, List.set_cons_zero, List.set_cons_succ]
  refine wpAnyH_ready (rs := [8]) (by kernel_rfl) (by simp) ?_
  refine AllReadyH.cons rfl (fun K hK => ?_) AllReadyH.nil
  go_simp
  refine (impl_usesBank k true HF.out.1.2 _).mono ?_
  rintro e y2 ⟨rfl, hy2⟩
  refine hK.out _ _ (KEEP.out _ (bthenS2 hSx.2.2.2.2 hy2)) (fun hSy => ?_)
  clear hSx hK K
  have hSx := hSy; clear hSy
  try simp only [Act.put, List.getElem_toArray, List.getElem_cons_zero, List.getElem_cons_succ, List.setIfInBounds_toArray, List.set_cons_zero, List.set_cons_succ]
  refine wpAnyH_ready (rs := [10]) (by kernel_rfl) (by simp) ?_
  refine AllReadyH.cons rfl (fun K hK => ?_) AllReadyH.nil
  go_simp
  refine (impl_fieldOk b nb true _ HF.out.2.2.2.1 nb0 h1).mono ?_
  rintro e y3 ⟨rfl, hy3⟩
  refine hK.out _ _ (KEEP.out _ (bthenS2 hSx.2.2.2.2 hy3)) (fun hSy => ?_)
  clear hSx hK K
  have hSx := hSy; clear hSy
  try simp only [Act.put, List.getElem_toArray, List.getElem_cons_zero, List.getElem_cons_succ, List.setIfInBounds_toArray, List.set_cons_zero, List.set_cons_succ]
  refine wpAnyH_take (i := 11) (v := ?_) rfl (by kernel_rfl) (by kernel_rfl) (by kernel_rfl) (fun _ _ _ h => h) (Or.inl ⟨by rfl, ?_⟩) (by assumption) ?_
  rotate_left
  · intro w hSw; (try dsimp only at hSw); go_simp; try with_reducible rfl
  try simp only [Act.put, List.getElem_toArray, List.getElem_cons_zero, List.getElem_cons_succ, List.setIfInBounds_toArray, List.set_cons_zero, List.set_cons_succ]
  refine wpAnyH_take (i := 12) (v := ?_) rfl (by kernel_rfl) (by kernel_rfl) (by kernel_rfl) (fun _ _ _ h => h) (Or.inl ⟨by rfl, ?_⟩) (by assumption) ?_
  rotate_left
  · intro w hSw; (try dsimp only at hSw); go_simp; try with_reducible rfl
  try simp only [Act.put, List.getElem_toArray, List.getElem_cons_zero, List.getElem_cons_succ, List.setIfInBounds_toArray, List.set_cons_zero, List.set_cons_succ]
  refine wpAnyH_take (i := 13) (v := ?_) rfl (by kernel_rfl) (by kernel_rfl) (by kernel_rfl) (fun _ _ _ h => h) (Or.inl ⟨by rfl, ?_⟩) (by assumption) ?_
  rotate_left
  · intro w hSw; (try dsimp only at hSw); go_simp; try with_reducible rfl
  try simp only [Act.put, List.getElem_toArray, List.getElem_cons_zero, List.getElem_cons_succ, List.setIfInBounds_toArray, List.set_cons_zero, List.set_cons_succ]
  refine wpAnyH_take (i := 14) (v := ?_) rfl (by kernel_rfl) (by kernel_rfl) (by kernel_rfl) (fun _ _ _ h => h) (Or.inl ⟨by rfl, ?_⟩) (by assumption) ?_
  rotate_left
  · intro w hSw; (try dsimp only at hSw); go_simp; try with_reducible rfl
  try simp only [Act.put, List.getElem_toArray, List.getElem_cons_zero, List.getElem_cons_succ, List.setIfInBounds_toArray, List.set_cons_zero, List.set_cons_succ]
  refine wpAnyH_take (i := 15) (v := ?_) rfl (by kernel_rfl) (by kernel_rfl) (by kernel_rfl) (fun _ _ _ h => h) (Or.inl ⟨by rfl, ?_⟩) (by assumption) ?_
  rotate_left
  · intro w hSw; (try dsimp only at hSw); go_simp; try with_reducible rfl
  try simp only [Act.put, List.getElem_toArray, List.getElem_cons_zero, List.getElem_cons_succ, List.setIfInBounds_toArray, List.set_cons_zero, List.set_cons_succ]
  refine wpAnyH_take (i := 16) (v := ?_) rfl (by kernel_rfl) (by kernel_rfl) (by kernel_rfl) (fun _ _ _ h => h) (Or.inl ⟨by rfl, ?_⟩) (by assumption) ?_
  rotate_left
  · intro w hSw; (try dsimp only at hSw); go_simp; try with_reducible rfl
  try simp only [Act.put, List.getElem_toArray, List.getElem_cons_zero, List.getElem_cons_succ, List.setIfInBounds_toArray, List.set_cons_zero, List.set_cons_succ]
  refine wpAnyH_take (i := 18) (v := ?_) rfl (by kernel_rfl) (by kernel_rfl) (by kernel_rfl) (fun _ _ _ h => h) (Or.inl ⟨by rfl, ?_⟩) (by assumption) ?_
  rotate_left
  · intro w hSw; (try dsimp only at hSw); go_simp; try with_reducible rfl
  try simp only [Act.put, List.getElem_toArray, List.getElem_cons_zero, List.getElem_cons_succ, List.setIfInBounds_toArray, List.set_cons_zero, List.set_cons_succ]
  refine wpAnyH_ready (rs := [17]) (by kernel_rfl) (by simp) ?_
  refine AllReadyH.cons rfl (fun K hK => ?_) AllReadyH.nil
  go_simp
  refine (impl_usesRow k v1 HF.out.2.1 _).mono ?_
  rintro e y4 ⟨rfl, hy4⟩
  refine hK.out _ _ (KEEP.out _ (bthenS2 hSx.2.2.2.2 hy4)) (fun hSy => ?_)
  clear hSx hK K
  have hSx := hSy; clear hSy
  try simp only [Act.put, List.getElem_toArray, List.getElem_cons_zero, List.getElem_cons_succ, List.setIfInBounds_toArray, List.set_cons_zero, List.set_cons_succ]
  refine wpAnyH_ready (rs := [19]) (by kernel_rfl) (by simp) ?_
  refine AllReadyH.cons rfl (fun K hK => ?_) AllReadyH.nil
  go_simp
  refine (impl_fieldOk r rows v1 _ HF.out.2.2.2.2.1 r0 r1).mono ?_
  rintro e y5 ⟨rfl, hy5⟩
  refine hK.out _ _ (KEEP.out _ (bthenS2 hSx.2.2.2.2 hy5)) (fun hSy => ?_)
  clear hSx hK K
  have hSx := hSy; clear hSy
  try simp only [Act.put, List.getElem_toArray, List.getElem_cons_zero, List.getElem_cons_succ, List.setIfInBounds_toArray, List.set_cons_zero, List.set_cons_succ]
  refine wpAnyH_take (i := 20) (v := ?_) rfl (by kernel_rfl) (by kernel_rfl) (by kernel_rfl) (fun _ _ _ h => h) (Or.inl ⟨by rfl, ?_⟩) (by assumption) ?_
  rotate_left
  · intro w hSw; (try dsimp only at hSw); go_simp; try with_reducible rfl
  try simp only [Act.put, List.getElem_toArray, List.getElem_cons_zero, List.getElem_cons_succ, List.setIfInBounds_toArray, List.set_cons_zero, List.set_cons_succ]
  refine wpAnyH_take (i := 21) (v := ?_) rfl (by kernel_rfl) (by kernel_rfl) (by kernel_rfl) (fun _ _ _ h => h) (Or.inl ⟨by rfl, ?_⟩) (by assumption) ?_
  rotate_left
  · intro w hSw; (try dsimp only at hSw); go_simp; try with_reducible rfl
  try simp only [Act.put, List.getElem_toArray, List.getElem_cons_zero, List.getElem_cons_succ, List.setIfInBounds_toArray, List.set_cons_zero, List.set_cons_succ]
  refine wpAnyH_take (i := 22) (v := ?_) rfl (by kernel_rfl) (by kernel_rfl) (by kernel_rfl) (fun _ _ _ h => h) (Or.inl ⟨by rfl, ?_⟩) (by assumption) ?_
  rotate_left
  · intro w hSw; (try dsimp only at hSw); go_simp; try with_reducible rfl
  try simp only [Act.put, List.getElem_toArray, List.getElem_cons_zero, List.getElem_cons_succ, List.setIfInBounds_toArray, List.set_cons_zero, List.set_cons_succ]
  refine wpAnyH_take (i := 23) (v := ?_) rfl (by kernel_rfl) (by kernel_rfl) (by kernel_rfl) (fun _ _ _ h => h) (Or.inl ⟨by rfl, ?_⟩) (by assumption) ?_
  rotate_left
  · intro w hSw; (try dsimp only at hSw); go_simp; try with_reducible rfl
  try simp only [Act.put, List.getElem_toArray, List.getElem_cons_zero, List.getElem_cons_succ, List.setIfInBounds_toArray, List.set_cons_zero, List.set_cons_succ]
  refine wpAnyH_take (i := 24) (v := ?_) rfl (by kernel_rfl) (by kernel_rfl) (by kernel_rfl) (fun _ _ _ h => h) (Or.inl ⟨by rfl, ?_⟩) (by assumption) ?_
  rotate_left
  · intro w hSw; (try dsimp only at hSw); go_simp; try with_reducible rfl
  try simp only [Act.put, List.getElem_toArray, List.getElem_cons_zero, List.getElem_cons_succ, List.setIfInBounds_toArray, List.set_cons_zero, List.set_cons_succ]
  refine wpAnyH_take (i := 25) (v := ?_) rfl (by kernel_rfl) (by kernel_rfl) (by kernel_rfl) (fun _ _ _ h => h) (Or.inl ⟨by rfl, ?_⟩) (by assumption) ?_
  rotate_left
  · intro w hSw; (try dsimp only at hSw); go_simp; try with_reducible rfl
  try simp only [Act.put, List.getElem_toArray, List.getElem_cons_zero, List.getElem_cons_succ, List.setIfInBounds_toArray, List.set_cons_zero, List.set_cons_succ]
  refine wpAnyH_take (i := 27) (v := ?_) rfl (by kernel_rfl) (by kernel_rfl) (by kernel_rfl) (fun _ _ _ h => h) (Or.inl ⟨by rfl, ?_⟩) (by assumption) ?_
  rotate_left
  · intro w hSw; (try dsimp only at hSw); go_simp; try with_reducible rfl
  try simp only [Act.put, List.getElem_toArray, List.getElem_cons_zero, List.getElem_cons_succ, List.setIfInBounds_toArray, List.set_cons_zero, List.set_cons_succ]
  refine wpAnyH_ready (rs := [26]) (by kernel_rfl) (by simp) ?_
  refine AllReadyH.cons rfl (fun K hK => ?_) AllReadyH.nil
  go_simp
  refine (impl_usesCol k v2 HF.out.2.2.1 _).mono ?_
  rintro e y6 ⟨rfl, hy6⟩
  refine hK.out _ _ (KEEP.out _ (bthenS2 hSx.2.2.2.2 hy6)) (fun hSy => ?_)
  clear hSx hK K
  have hSx := hSy; clear hSy
  try simp only [Act.put, List.getElem_toArray, List.getElem_cons_zero, List.getElem_cons_succ, List.setIfInBounds_toArray, List.set_cons_zero, List.set_cons_succ]
  refine wpAnyH_ready (rs := [28]) (by kernel_rfl) (by simp) ?_
  refine AllReadyH.cons rfl (fun K hK => ?_) AllReadyH.nil
  go_simp
  refine (impl_fieldOk c cols v2 _ HF.out.2.2.2.2.2 c0 c1).mono ?_
  rintro e y7 ⟨rfl, hy7⟩
  refine hK.out _ _ (KEEP.out _ (bthenS2 hSx.2.2.2.2 hy7)) (fun hSy => ?_)
  clear hSx hK K
  have hSx := hSy; clear hSy
  try simp only [Act.put, List.getElem_toArray, List.getElem_cons_zero, List.getElem_cons_succ, List.setIfInBounds_toArray, List.set_cons_zero, List.set_cons_succ]
  refine wpAnyH_take (i := 29) (v := ?_) rfl (by kernel_rfl) (by kernel_rfl) (by kernel_rfl) (fun _ _ _ h => h) (Or.inl ⟨by rfl, ?_⟩) (by assumption) ?_
  rotate_left
  · intro w hSw; (try dsimp only at hSw); go_simp; try with_reducible rfl
  try simp only [Act.put, List.getElem_toArray, List.getElem_cons_zero, List.getElem_cons_succ, List.setIfInBounds_toArray, List.set_cons_zero, List.set_cons_succ]
  refine wpAnyH_take (i := 30) (v := ?_) rfl (by kernel_rfl) (by kernel_rfl) (by kernel_rfl) (fun _ _ _ h => h) (Or.inl ⟨by rfl, ?_⟩) (by assumption) ?_
  rotate_left
  · intro w hSw; (try dsimp only at hSw); go_simp; try with_reducible rfl
  try simp only [Act.put, List.getElem_toArray, List.getElem_cons_zero, List.getElem_cons_succ, List.setIfInBounds_toArray, List.set_cons_zero, List.set_cons_succ]
  refine wpAnyH_done (by kernel_rfl) ?_ _
  go_wp2_with fail
  go_ret
  exact ⟨rfl, bthen HB.out hSx.2.2.2.2 HB.out.size⟩
set_option maxRecDepth 100000 in
set_option maxHeartbeats 4000000 in
theorem impl_CommandOk (g : Ge) (nb k b r c : Int) (w : World) (hg : geoOk g = true) (hnb : bankCnt g = nb) (h : CmdIs nb g.rw g.cl k b r c) :
    Calls Try.prog 99 #[.agg #[.int .i64 g.gr, .int .i64 g.bk, .int .i64 g.rw, .int .i64 g.cl], .agg #[.int .i64 k, .int .i64 b, .int .i64 r, .int .i64 c]] w fun e w' => e = .returned (.bool true) ∧ Below w.heap.size w w' := by
  have H := hide h
  have hgb := geoOk_bd hg
  have hbb := bankCnt_bd g
  have nb1 : nb ≤ 1000 := by omega
  have rr : 0 ≤ g.rw ∧ g.rw ≤ 1000 := by omega
  have cc : 0 ≤ g.cl ∧ g.cl ≤ 1000 := by omega
  have HN := hide hnb
  clear h hgb hbb hnb
  go_enter Try.func99, Try.ntmps99
  go_wp2_with fail
  have kg : ((w.alloc (.cells #[.int .i64 g.gr, .int .i64 g.bk, .int .i64 g.rw, .int .i64 g.cl] 43)).alloc (.cells #[.int .i64 k, .int .i64 b, .int .i64 r, .int .i64 c] 91)).heap[w.heap.size]? = some (.cells #[.int .i64 g.gr, .int .i64 g.bk, .int .i64 g.rw, .int .i64 g.cl] 43 (0, 0)) := by rw [alloc_lt _ _ _ (by simp), alloc_at _ _ _ rfl]
  have kc : ((w.alloc (.cells #[.int .i64 g.gr, .int .i64 g.bk, .int .i64 g.rw, .int .i64 g.cl] 43)).alloc (.cells #[.int .i64 k, .int .i64 b, .int .i64 r, .int .i64 c] 91)).heap[w.heap.size + 1]? = some (.cells #[.int .i64 k, .int .i64 b, .int .i64 r, .int .i64 c] 91 (0, 0)) := alloc_at _ _ _ (by simp)
  have hB : Below w.heap.size w ((w.alloc (.cells #[.int .i64 g.gr, .int .i64 g.bk, .int .i64 g.rw, .int .i64 g.cl] 43)).alloc (.cells #[.int .i64 k, .int .i64 b, .int .i64 r, .int .i64 c] 91)) := by go_grown
  generalize ((w.alloc (.cells #[.int .i64 g.gr, .int .i64 g.bk, .int .i64 g.rw, .int .i64 g.cl] 43)).alloc (.cells #[.int .i64 k, .int .i64 b, .int .i64 r, .int .i64 c] 91)) = W at *
  have HB := hide hB
  have KEEP := hide (show ∀ v, Below W.heap.size W v → v.cell? ⟨w.heap.size, 0, none⟩ = some (.int .i64 g.gr) ∧ v.cell? ⟨w.heap.size, 1, none⟩ = some (.int .i64 g.bk) ∧ v.cell? ⟨w.heap.size, 2, none⟩ = some (.int .i64 g.rw) ∧ v.cell? ⟨w.heap.size, 3, none⟩ = some (.int .i64 g.cl) ∧ v.cell? ⟨w.heap.size + 1, 0, none⟩ = some (.int .i64 k) ∧ v.cell? ⟨w.heap.size + 1, 1, none⟩ = some (.int .i64 b) ∧ v.cell? ⟨w.heap.size + 1, 2, none⟩ = some (.int .i64 r) ∧ v.cell? ⟨w.heap.size + 1, 3, none⟩ = some (.int .i64 c) ∧ Below W.heap.size W v from fun v hb =>
    have h1 := (hb.block _ (lt_blk kg)).trans kg
    have h2 := (hb.block _ (lt_blk kc)).trans kc
    ⟨cell_blk h1 0, cell_blk h1 1, cell_blk h1 2, cell_blk h1 3, cell_blk h2 0, cell_blk h2 1, cell_blk h2 2, cell_blk h2 3, hb⟩)
  clear hB kc kg
  refine wp_region_held_drew (S := fun v => v.cell? ⟨w.heap.size, 0, none⟩ = some (.int .i64 g.gr) ∧ v.cell? ⟨w.heap.size, 1, none⟩ = some (.int .i64 g.bk) ∧ v.cell? ⟨w.heap.size, 2, none⟩ = some (.int .i64 g.rw) ∧ v.cell? ⟨w.heap.size, 3, none⟩ = some (.int .i64 g.cl) ∧ v.cell? ⟨w.heap.size + 1, 0, none⟩ = some (.int .i64 k) ∧ v.cell? ⟨w.heap.size + 1, 1, none⟩ = some (.int .i64 b) ∧ v.cell? ⟨w.heap.size + 1, 2, none⟩ = some (.int .i64 r) ∧ v.cell? ⟨w.heap.size + 1, 3, none⟩ = some (.int .i64 c) ∧ Below W.heap.size W v) (by kernel_rfl) (KEEP.out _ (Below.refl _ _).drew) (fun hSx => ?_)
  refine wpAnyH_take (i := 0) (v := ?_) rfl (by kernel_rfl) (by kernel_rfl) (by kernel_rfl) (fun _ _ _ h => h) (Or.inl ⟨by rfl, ?_⟩) (by assumption) ?_
  rotate_left
  · intro w hSw; (try dsimp only at hSw); go_simp; try with_reducible rfl
  try simp only [Act.put, List.getElem_toArray, List.getElem_cons_zero, List.getElem_cons_succ, List.setIfInBounds_toArray, List.set_cons_zero, List.set_cons_succ]
  refine wpAnyH_ready (rs := [1]) (by kernel_rfl) (by simp) ?_
  refine AllReadyH.cons rfl (fun K hK => ?_) AllReadyH.nil
  go_simp
  refine (impl_GeometryOk_is g true hg _).mono ?_
  rintro e y1 ⟨rfl, hy1⟩
  refine hK.out _ _ (KEEP.out _ (bthenS2 hSx.2.2.2.2.2.2.2.2 hy1)) (fun hSy => ?_)
  clear hSx hK K
  have hSx := hSy; clear hSy
  try simp only [Act.put, List.getElem_toArray, List.getElem_cons_zero, List.getElem_cons_succ, List.setIfInBounds_toArray, List.set_cons_zero, List.set_cons_succ]
  refine wpAnyH_take (i := 2) (v := ?_) rfl (by kernel_rfl) (by kernel_rfl) (by kernel_rfl) (fun _ _ _ h => h) (Or.inl ⟨by rfl, ?_⟩) (by assumption) ?_
  rotate_left
  · intro w hSw; (try dsimp only at hSw); go_simp; try with_reducible rfl
  try simp only [Act.put, List.getElem_toArray, List.getElem_cons_zero, List.getElem_cons_succ, List.setIfInBounds_toArray, List.set_cons_zero, List.set_cons_succ]
  refine wpAnyH_take (i := 3) (v := ?_) rfl (by kernel_rfl) (by kernel_rfl) (by kernel_rfl) (fun _ _ _ h => h) (Or.inl ⟨by rfl, ?_⟩) (by assumption) ?_
  rotate_left
  · intro w hSw; (try dsimp only at hSw); go_simp; try with_reducible rfl
  try simp only [Act.put, List.getElem_toArray, List.getElem_cons_zero, List.getElem_cons_succ, List.setIfInBounds_toArray, List.set_cons_zero, List.set_cons_succ]
  refine wpAnyH_take (i := 4) (v := ?_) rfl (by kernel_rfl) (by kernel_rfl) (by kernel_rfl) (fun _ _ _ h => h) (Or.inl ⟨by rfl, ?_⟩) (by assumption) ?_
  rotate_left
  · intro w hSw; (try dsimp only at hSw); go_simp; try with_reducible rfl
  try simp only [Act.put, List.getElem_toArray, List.getElem_cons_zero, List.getElem_cons_succ, List.setIfInBounds_toArray, List.set_cons_zero, List.set_cons_succ]
  refine wpAnyH_take (i := 6) (v := ?_) rfl (by kernel_rfl) (by kernel_rfl) (by kernel_rfl) (fun _ _ _ h => h) (Or.inl ⟨by rfl, ?_⟩) (by assumption) ?_
  rotate_left
  · intro w hSw; (try dsimp only at hSw); go_simp; try with_reducible rfl
  try simp only [Act.put, List.getElem_toArray, List.getElem_cons_zero, List.getElem_cons_succ, List.setIfInBounds_toArray, List.set_cons_zero, List.set_cons_succ]
  refine wpAnyH_take (i := 7) (v := ?_) rfl (by kernel_rfl) (by kernel_rfl) (by kernel_rfl) (fun _ _ _ h => h) (Or.inl ⟨by rfl, ?_⟩) (by assumption) ?_
  rotate_left
  · intro w hSw; (try dsimp only at hSw); go_simp; try with_reducible rfl
  try simp only [Act.put, List.getElem_toArray, List.getElem_cons_zero, List.getElem_cons_succ, List.setIfInBounds_toArray, List.set_cons_zero, List.set_cons_succ]
  refine wpAnyH_take (i := 8) (v := ?_) rfl (by kernel_rfl) (by kernel_rfl) (by kernel_rfl) (fun _ _ _ h => h) (Or.inl ⟨by rfl, ?_⟩) (by assumption) ?_
  rotate_left
  · intro w hSw; (try dsimp only at hSw); go_simp; try with_reducible rfl
  try simp only [Act.put, List.getElem_toArray, List.getElem_cons_zero, List.getElem_cons_succ, List.setIfInBounds_toArray, List.set_cons_zero, List.set_cons_succ]
  refine wpAnyH_take (i := 9) (v := ?_) rfl (by kernel_rfl) (by kernel_rfl) (by kernel_rfl) (fun _ _ _ h => h) (Or.inl ⟨by rfl, ?_⟩) (by assumption) ?_
  rotate_left
  · intro w hSw; (try dsimp only at hSw); go_simp; try with_reducible rfl
  try simp only [Act.put, List.getElem_toArray, List.getElem_cons_zero, List.getElem_cons_succ, List.setIfInBounds_toArray, List.set_cons_zero, List.set_cons_succ]
  refine wpAnyH_ready (rs := [5]) (by kernel_rfl) (by simp) ?_
  refine AllReadyH.cons rfl (fun K hK => ?_) AllReadyH.nil
  go_simp
  refine (impl_BankCount_is g nb HN.out _).mono ?_
  rintro e y2 ⟨rfl, hy2⟩
  refine hK.out _ _ (KEEP.out _ (bthenS2 hSx.2.2.2.2.2.2.2.2 hy2)) (fun hSy => ?_)
  clear hSx hK K
  have hSx := hSy; clear hSy
  try simp only [Act.put, List.getElem_toArray, List.getElem_cons_zero, List.getElem_cons_succ, List.setIfInBounds_toArray, List.set_cons_zero, List.set_cons_succ]
  refine wpAnyH_ready (rs := [10]) (by kernel_rfl) (by simp) ?_
  refine AllReadyH.cons rfl (fun K hK => ?_) AllReadyH.nil
  go_simp
  refine (impl_wellFormed nb g.rw g.cl k b r c _ H.out nb1 rr cc).mono ?_
  rintro e y3 ⟨rfl, hy3⟩
  refine hK.out _ _ (KEEP.out _ (bthenS2 hSx.2.2.2.2.2.2.2.2 hy3)) (fun hSy => ?_)
  clear hSx hK K
  have hSx := hSy; clear hSy
  try simp only [Act.put, List.getElem_toArray, List.getElem_cons_zero, List.getElem_cons_succ, List.setIfInBounds_toArray, List.set_cons_zero, List.set_cons_succ]
  refine wpAnyH_take (i := 11) (v := ?_) rfl (by kernel_rfl) (by kernel_rfl) (by kernel_rfl) (fun _ _ _ h => h) (Or.inl ⟨by rfl, ?_⟩) (by assumption) ?_
  rotate_left
  · intro w hSw; (try dsimp only at hSw); go_simp; try with_reducible rfl
  try simp only [Act.put, List.getElem_toArray, List.getElem_cons_zero, List.getElem_cons_succ, List.setIfInBounds_toArray, List.set_cons_zero, List.set_cons_succ]
  refine wpAnyH_take (i := 12) (v := ?_) rfl (by kernel_rfl) (by kernel_rfl) (by kernel_rfl) (fun _ _ _ h => h) (Or.inl ⟨by rfl, ?_⟩) (by assumption) ?_
  rotate_left
  · intro w hSw; (try dsimp only at hSw); go_simp; try with_reducible rfl
  try simp only [Act.put, List.getElem_toArray, List.getElem_cons_zero, List.getElem_cons_succ, List.setIfInBounds_toArray, List.set_cons_zero, List.set_cons_succ]
  refine wpAnyH_done (by kernel_rfl) ?_ _
  go_wp2_with fail
  go_ret
  exact ⟨rfl, bthen HB.out hSx.2.2.2.2.2.2.2.2 HB.out.size⟩
theorem impl_GroupOf (g : Ge) (b x : Int) (w : World) (hg : geoOk g = true) (hb : 0 ≤ b ∧ b < bankCnt g) (hx : grpOf g b = x) :
    Calls Try.prog 152 #[.agg #[.int .i64 g.gr, .int .i64 g.bk, .int .i64 g.rw, .int .i64 g.cl], .int .i64 b] w fun e w' => e = .returned (.int .i64 x) ∧ Below w.heap.size w w' := by
  have hgb := geoOk_bd hg
  have hbb := bankCnt_bd g
  obtain ⟨nb, hnb⟩ : ∃ nb, bankCnt g = nb := ⟨_, rfl⟩
  rw [hnb] at hb hbb
  have hbt : btw b 0 (nb - 1) = true := btw_mk hb.1 (by omega)
  have wn : IntKind.i64.wrap (nb - 1) = nb - 1 := IntWalk.i64_in _ (by omega)
  have hx0 : 0 ≤ x ∧ x ≤ b := by
    rw [← hx]; exact ⟨Int.ediv_nonneg hb.1 (by omega), Int.ediv_le_self _ hb.1⟩
  have HX := hide (show b.tdiv g.bk = x by rw [Int.tdiv_eq_ediv_of_nonneg hb.1]; exact hx)
  have wx : IntKind.i64.wrap x = x := IntWalk.i64_in _ (by omega)
  have hz : ¬ g.bk = 0 := by omega
  have HN := hide hnb; have HBT := hide hbt
  clear hgb hbb hnb hb hx hx0 hbt
  go_enter Try.func152, Try.ntmps152
  go_wp2_with fail
  refine (impl_BankCount_is g nb HN.out _).mono ?_
  rintro e w1 ⟨rfl, h1⟩
  have hc := (bcell h1).1
  have c1 := (hc w.heap.size 1 (by simp only [World.size_alloc]; omega)).trans (show _ = some (.int .i64 g.bk) by simp [go_sem])
  have H1 := hide (show Below w.heap.size w w1 from bthen (by go_grown) h1 (by simp only [World.size_alloc]; omega))
  clear hc h1
  have hxx := HX.out
  go_wp2_with (go_at_call 77; refine (btw_eqv 77 _ _ _ true _ HBT.out (impl_between _ _ _ _)).mono ?_; rintro e w2 ⟨rfl, rfl⟩)
  go_ret
  exact ⟨rfl, H1.out⟩
end Go.Proofs.Ytahfbhfmhccgoaa
