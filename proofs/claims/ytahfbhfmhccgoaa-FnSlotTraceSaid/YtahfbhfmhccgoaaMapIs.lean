/- The ids that were seen: a map of bools. -/
import Derived.Test.YtahfbhfmhccgoaaSlotP
import Derived.Maps.Own
import Derived.Maps.Views
import Derived.Carry
set_option linter.unusedSimpArgs false
set_option linter.unusedVariables false
namespace Go.Proofs.Ytahfbhfmhccgoaa
open Go.RowKit Go.ChangeShapes Go.WideShapes Go.ChangeAt Go.Joins Go.Deep
open Go.ChangeMaps (open_string shut_string)
open Go.Maps (Keyed int_keyed keyOf_int_mk)
theorem try_keyed : Keyed Try.prog 3 := int_keyed Try.underlying3
/-- Block b is the map of the ids of the first k requests. -/
def MapIs (w : World) (b k : Nat) (rs : List Rq) : Prop :=
  ∃ D : DataW Nat, w.ownsMap Try.prog 3 (plainElem Try.prog 4) b k D ∧ Maps.IsMap D ∧ ∀ x : Int, (Lit.int .i64 x).wf = true → D.atKey (.int .i64 x) (.lit (.bool false)) = .lit (.bool ((rs.take k).any fun q => q.id == x))
theorem MapIs.made (w : World) (rs : List Rq) : MapIs (w.alloc (.map #[] 0)) w.heap.size 0 rs :=
  ⟨.map [], World.ownsMap_made w Try.prog 3 _, ⟨[], rfl⟩, fun x _ => rfl⟩
theorem MapIs.block {w w' : World} {b k : Nat} {rs : List Rq} (h : MapIs w b k rs) (e : w'.heap[b]? = w.heap[b]?) : MapIs w' b k rs := by
  obtain ⟨D, ⟨es, clock, hb, F, hs, hD⟩, h2, h3⟩ := h
  exact ⟨D, ⟨es, clock, e.trans hb, F, hs, hD⟩, h2, h3⟩
theorem MapIs.lt {w : World} {b k : Nat} {rs : List Rq} (h : MapIs w b k rs) : b < w.heap.size := by
  obtain ⟨D, h1, _⟩ := h
  exact h1.lt
theorem MapIs.below {w w' : World} {b k B : Nat} {rs : List Rq} (h : MapIs w b k rs) (hb : Below B w w') (hB : b < B) : MapIs w' b k rs := h.block (hb.block b hB)
theorem plainElem_bool_inv {v : Value} {b : Bool} {ps : List MemPlace} (h : plainElem (H := Nat) Try.prog 4 v = some (.lit (.bool b), ps)) : v = .bool b := by
  unfold plainElem at h
  rw [show Try.prog.underlying 4 = some .bool from Try.underlying4] at h
  cases v <;> simp at h
  rw [h.1]
theorem MapIs.look {w : World} {b k : Nat} {rs : List Rq} (h : MapIs w b k rs) {x : Int} {v : Bool} (hx : (Lit.int .i64 x).wf = true) (hv : ((rs.take k).any fun q => q.id == x) = v) :
    (Instr.lookup 136 (.map (some b)) (.int .i64 x) false).run Try.prog w = .ok (.bool v) w := by
  obtain ⟨D, h1, _, h3⟩ := h
  obtain ⟨u, ps, hrun, hu⟩ := h1.lookup try_keyed Try.underlying136 (show (zeroValue 4).run Try.prog w = .ok (.bool false) w by kernel_rfl) (plainElem_bool Try.underlying4 false) (keyOf_int_mk Try.underlying3 hx)
  rw [h3 x hx, hv] at hu
  rw [plainElem_bool_inv hu] at hrun
  exact hrun
theorem MapIs.next {w : World} {b k : Nat} {rs : List Rq} {r : Rq} (hr : rs[k]? = some r) {D : DataW Nat} (hm : Maps.IsMap D) (h3 : ∀ x : Int, (Lit.int .i64 x).wf = true → D.atKey (.int .i64 x) (.lit (.bool false)) = .lit (.bool ((rs.take k).any fun q => q.id == x)))
    (h : w.ownsMap Try.prog 3 (plainElem Try.prog 4) b (k + 1) (D.put (.int .i64 r.id) (.lit (.bool true)))) : MapIs w b (k + 1) rs := by
  refine ⟨_, h, ?_, fun x hx => ?_⟩
  · obtain ⟨es, rfl⟩ := hm
    exact ⟨_, rfl⟩
  · rw [take_snoc hr, List.any_append]
    by_cases e : r.id = x
    · subst e
      rw [Maps.atKey_put_same hm (by trivial)]
      simp
    · rw [Maps.atKey_put_other (by intro h; injection h with _ h; exact e h.symm), h3 x hx]
      simp [e]
end Go.Proofs.Ytahfbhfmhccgoaa
