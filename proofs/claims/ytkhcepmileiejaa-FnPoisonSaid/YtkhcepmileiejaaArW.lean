/- The copy of an array, of the program and of the reference. -/
import Derived.Test.YtkhcepmileiejaaCellsM
import Derived.Test.YtkhcepmileiejaaCodeW
set_option linter.unusedSimpArgs false
set_option linter.unusedVariables false
namespace Go.Proofs.Ytkhcepmileiejaa
open Go.RowKit Go.ChangeShapes Go.WideShapes Go.ChangeAt Go.Joins Go.Deep
open Go.ChangeMaps (open_string shut_string)
theorem OwnAr.keepA {lo hi : Nat} {w : World} {A : Ar} (h : OwnAr lo hi w A) : True := trivial
def FreshCl (w : World) (n : Nat) (ws : List Int) (p : Bool) (e : Ending) (w' : World) : Prop :=
  ∃ (a' : Option Addr) (c' : Nat), e = .returned (.agg #[.slice a' n c', .bool p]) ∧ w'.ownsRow w.heap.size 3 1 (.slice a' n c') n (ws.map (.int .i64)) ∧ Below w.heap.size w w'
theorem own_made_at {w : World} {base b : Nat} {e : TypeId} {size : Nat} (hb : b = w.heap.size) (h : base ≤ w.heap.size) : (w.alloc (.cells #[] e)).ownsRow base e size (.slice (some ⟨b, 0, none⟩) 0 0) 0 [] := by
  subst hb
  exact World.ownsRow_made w #[] 0 h (by decide) (by simp)
set_option maxRecDepth 100000 in
set_option maxHeartbeats 1000000 in
theorem impl_copyCell (a : Option Addr) (n c : Nat) (ws : List Int) (p : Bool) (w : World) (ha : IsInts .i64 w a n c ws) (hs : n ≤ 1048576) :
    Calls Try.prog 80 #[.agg #[.slice a n c, .bool p]] w (FreshCl w n ws p) := by
  obtain ⟨i0_int, hi_int, hz0_int, hz1_int, hz2_int⟩ := info_parts info_int
  have HA := hide ha; have HL := hide ha.1
  have hc := ha.2.1; have hm : c ≤ 9223372036854775807 := ha.2.2.1
  clear ha
  have hW2 : Below w.heap.size w ((w.alloc (.cells #[.slice a n c, .bool p] 70)).alloc (.cells #[.slice none 0 0, .bool false] 70)) := Below.alloc (Below.alloc (Below.refl _ _) (Nat.le_refl _) _) (by simp) _
  have hsz2 : ((w.alloc (.cells #[.slice a n c, .bool p] 70)).alloc (.cells #[.slice none 0 0, .bool false] 70)).heap.size = w.heap.size + 1 + 1 := by simp
  have hB0 : Below (w.heap.size + 1 + 1) ((w.alloc (.cells #[.slice a n c, .bool p] 70)).alloc (.cells #[.slice none 0 0, .bool false] 70)) (((w.alloc (.cells #[.slice a n c, .bool p] 70)).alloc (.cells #[.slice none 0 0, .bool false] 70)).alloc (.cells #[] 3)) := Below.alloc (Below.refl _ _) (by simp) _
  have HA0 := hide (HA.out.below (bthen hW2 hB0 (by omega)) (Nat.le_refl _)).2.2.2.2
  have HO0 := hide (own_made_at (w := ((w.alloc (.cells #[.slice a n c, .bool p] 70)).alloc (.cells #[.slice none 0 0, .bool false] 70))) (base := w.heap.size + 1 + 1) (b := w.heap.size + 1 + 1) (e := 3) (size := 1) hsz2.symm (by simp))
  have HB0 := hide hB0; have HW2 := hide hW2
  clear hB0 hW2
  go_enter Try.func80, Try.ntmps80
  go_wp2_with (at_builtin; refine wpList_append_any rfl _ _ 25 rfl (w.heap.size + 1 + 1) 3 i0_int (.int .i64 0) 1 8 Try.underlying25 hi_int hz0_int hz1_int hz2_int rfl (by decide) _ _ _ rfl (HO0.out) _ _ _ _ rfl (by rw [List.length_map, HL.out, Nat.mul_one]) HA0.out (map_ones _) ?c3r ?c4r ?c5r ?_)
  case c3r => unfold maxLen; omega
  case c4r => omega
  case c5r => (first | go_size | (simp; omega))
  intro v' wr hownr hgr
  obtain ⟨ar, cr, rfl⟩ := own_shape hownr
  have hBr := below_grown HB0.out (HO0.out) (by omega) (by go_size) hgr
  have hsr := hgr.size
  (try simp only [World.size_alloc] at hsr)
  have HGr := hide hgr; clear hgr
  (try simp only [List.nil_append, Nat.zero_add] at hownr)
  have hb2 := bthen HW2.out hBr (by omega)
  have hs2 := hBr.size
  rw [hsz2] at hs2
  have q0 := fun o => (bcell hBr).1 w.heap.size o (by omega)
  have q1 := fun o => (bcell hBr).1 (w.heap.size + 1) o (by omega)
  have f0 := fun o => (bcell hBr).2 w.heap.size o (by omega)
  have f1 := fun o => (bcell hBr).2 (w.heap.size + 1) o (by omega)
  have HR := hide hownr
  clear hownr HO0 HA0 HB0 HGr
  go_wp2_with fail
  refine bodyPost_ret (by simp [results, Try.results80, go_sem, *]; try rfl) rfl ?_
  refine ⟨ar, cr, rfl, ?_, by go_grown⟩
  refine own_base (base' := w.heap.size) (own_set (own_set (own_set HR.out ?_ _) ?_ _) ?_ _) ?_
  all_goals omega
set_option maxRecDepth 100000 in
set_option maxHeartbeats 1000000 in
theorem spec_l14Cell (a : Option Addr) (n c : Nat) (ws : List Int) (p : Bool) (w : World) (ha : IsInts .i64 w a n c ws) (hs : n ≤ 1048576) :
    Calls Try.prog 77 #[.agg #[.slice a n c, .bool p]] w (FreshCl w n ws p) := by
  obtain ⟨i0_int, hi_int, hz0_int, hz1_int, hz2_int⟩ := info_parts info_int
  have HA := hide ha; have HL := hide ha.1
  have hc := ha.2.1; have hm : c ≤ 9223372036854775807 := ha.2.2.1
  clear ha
  have hW2 : Below w.heap.size w ((w.alloc (.cells #[.slice a n c, .bool p] 70)).alloc (.cells #[.slice none 0 0, .bool false] 70)) := Below.alloc (Below.alloc (Below.refl _ _) (Nat.le_refl _) _) (by simp) _
  have hsz2 : ((w.alloc (.cells #[.slice a n c, .bool p] 70)).alloc (.cells #[.slice none 0 0, .bool false] 70)).heap.size = w.heap.size + 1 + 1 := by simp
  have hB0 : Below (w.heap.size + 1 + 1) ((w.alloc (.cells #[.slice a n c, .bool p] 70)).alloc (.cells #[.slice none 0 0, .bool false] 70)) (((w.alloc (.cells #[.slice a n c, .bool p] 70)).alloc (.cells #[.slice none 0 0, .bool false] 70)).alloc (.cells #[] 3)) := Below.alloc (Below.refl _ _) (by simp) _
  have HA0 := hide (HA.out.below (bthen hW2 hB0 (by omega)) (Nat.le_refl _)).2.2.2.2
  have HO0 := hide (own_made_at (w := ((w.alloc (.cells #[.slice a n c, .bool p] 70)).alloc (.cells #[.slice none 0 0, .bool false] 70))) (base := w.heap.size + 1 + 1) (b := w.heap.size + 1 + 1) (e := 3) (size := 1) hsz2.symm (by simp))
  have HB0 := hide hB0; have HW2 := hide hW2
  clear hB0 hW2
  go_enter Try.func77, Try.ntmps77
  go_wp2_with (at_builtin; refine wpList_append_any rfl _ _ 25 rfl (w.heap.size + 1 + 1) 3 i0_int (.int .i64 0) 1 8 Try.underlying25 hi_int hz0_int hz1_int hz2_int rfl (by decide) _ _ _ rfl (HO0.out) _ _ _ _ rfl (by rw [List.length_map, HL.out, Nat.mul_one]) HA0.out (map_ones _) ?c3r ?c4r ?c5r ?_)
  case c3r => unfold maxLen; omega
  case c4r => omega
  case c5r => (first | go_size | (simp; omega))
  intro v' wr hownr hgr
  obtain ⟨ar, cr, rfl⟩ := own_shape hownr
  have hBr := below_grown HB0.out (HO0.out) (by omega) (by go_size) hgr
  have hsr := hgr.size
  (try simp only [World.size_alloc] at hsr)
  have HGr := hide hgr; clear hgr
  (try simp only [List.nil_append, Nat.zero_add] at hownr)
  have hb2 := bthen HW2.out hBr (by omega)
  have hs2 := hBr.size
  rw [hsz2] at hs2
  have q0 := fun o => (bcell hBr).1 w.heap.size o (by omega)
  have q1 := fun o => (bcell hBr).1 (w.heap.size + 1) o (by omega)
  have f0 := fun o => (bcell hBr).2 w.heap.size o (by omega)
  have f1 := fun o => (bcell hBr).2 (w.heap.size + 1) o (by omega)
  have HR := hide hownr
  clear hownr HO0 HA0 HB0 HGr
  go_wp2_with fail
  refine bodyPost_ret (by simp [results, Try.results77, go_sem, *]; try rfl) rfl ?_
  refine ⟨ar, cr, rfl, ?_, by go_grown⟩
  refine own_base (base' := w.heap.size) (own_set (own_set (own_set HR.out ?_ _) ?_ _) ?_ _) ?_
  all_goals omega
end Go.Proofs.Ytkhcepmileiejaa
