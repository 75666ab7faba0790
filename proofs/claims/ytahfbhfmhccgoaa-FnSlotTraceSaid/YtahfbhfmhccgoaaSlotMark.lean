/- The laws' marks of slots, and its comparison of served requests and of requests. -/
import Derived.Test.YtahfbhfmhccgoaaServe4
import Derived.Test.YtahfbhfmhccgoaaIntMarks
set_option linter.unusedSimpArgs false
set_option linter.unusedVariables false
namespace Go.Proofs.Ytahfbhfmhccgoaa
open Go.RowKit Go.ChangeShapes Go.WideShapes Go.ChangeAt Go.Joins Go.Deep
open Go.ChangeMaps (open_string shut_string)
theorem servedAll_le (rs : List Rq) (zs : List Int) (l u : Int) : (servedAll rs zs l u).length ≤ 1001 := by
  unfold servedAll
  split
  · next h =>
    obtain ⟨h1, h2, h3, h4, h5⟩ := servable_bd h
    have := (nSlots_le (u := u) (l := l) (slotsOkB_bd h1).2.2.2.1 h2 h5).1
    have := served_le rs zs l (nSlots u l)
    omega
  · simp
set_option maxHeartbeats 1000000 in
theorem laws_markSlots (lo hi : Nat) (a : Option Addr) (n c : Nat) (l k0 : Int) (xs : List Value) (w : World) (hk0 : 0 ≤ k0 ∧ k0 ≤ 1000000000) (hs : n ≤ 1048576) (hhi : hi ≤ w.heap.size) (ho : Owned lo hi w 3 1 a n c xs) :
    Calls Try.prog 44 #[.agg #[.slice a n c, .int .i64 l], .int .i64 k0] w fun e w' => e = .returned (.int .i64 (k0 + n)) ∧ True ∧ Save lo hi w w' := by
  have HO := hide ho
  clear ho
  go_enter Try.func44, Try.ntmps44
  go_wp2_with fail
  have hb : Below w.heap.size w (w.alloc (.cells #[.slice a n c, .int .i64 l] 48)) := (Below.refl _ _).alloc (Nat.le_refl _) _
  refine (laws_markIntS lo hi a n c k0 xs _ hk0 hs (HO.out.below hb hhi)).mono ?_
  rintro e w1 ⟨rfl, _, h2⟩
  go_wp2_with fail
  go_ret
  exact ⟨rfl, trivial, (Save.of_below hb).trans h2⟩
end Go.Proofs.Ytahfbhfmhccgoaa
