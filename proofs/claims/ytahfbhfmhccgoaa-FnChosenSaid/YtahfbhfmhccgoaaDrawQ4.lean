/- The drawn inputs of a choice: a queue, two lists of flags, the cap, the time. -/
import Derived.Test.YtahfbhfmhccgoaaDrawQ3
import Derived.Test.YtahfbhfmhccgoaaDrawSh
set_option linter.unusedSimpArgs false
set_option linter.unusedVariables false
namespace Go.Proofs.Ytahfbhfmhccgoaa
open Go.RowKit Go.ChangeShapes Go.WideShapes Go.ChangeAt Go.Joins Go.Deep
open Go.ChangeMaps (open_string shut_string)
set_option maxRecDepth 100000 in
set_option maxHeartbeats 1000000 in
theorem spec_l21Flags_neg (w0 : World) (a : Option Addr) (n c b : Nat) (w : World) (hC0 : Cur w0 a n c b w) :
    Calls Try.prog 70 #[.pointer (some ⟨b, 0, none⟩), .int .i64 (-1)] w (DrewBools w0 a n c b w 0 0) := by
  have hlb := hC0.lt
  go_enter Try.func70, Try.ntmps70
  go_wp2_with fail
  go_loopw [5, 6] (fun v i wr => i = .int .i64 0 ∧ v = .slice (some ⟨w.heap.size, 0, none⟩) 0 0 ∧ wr = w.alloc (.cells #[] 4)) (fun _ _ _ => 0)
  case atStart => exact ⟨rfl, rfl, rfl⟩
  case round =>
    obtain ⟨rfl, rfl, rfl⟩ := hrel
    go_wp2_with fail
    go_ret
    exact ⟨_, 0, _, [], by omega, by omega, rfl, own_made_at rfl (by simp), rfl, hC0.alloc _, only_alloc (only_refl _ _) _⟩
theorem spec_l21FlagsI (w0 : World) (a : Option Addr) (n c b : Nat) (bs : List Int) (w : World) (i : Int) (ha : IsInts .u8 w0 a n c bs) (hs : n ≤ 1048576) (hi0 : -1 ≤ i) (hi : i ≤ 1000) (hC0 : Cur w0 a n c b w) :
    Calls Try.prog 70 #[.pointer (some ⟨b, 0, none⟩), .int .i64 i] w (DrewBools w0 a n c b w 0 i.toNat) := by
  by_cases h : i = -1
  · subst h
    exact spec_l21Flags_neg w0 a n c b w hC0
  · obtain ⟨m, rfl⟩ := Int.eq_ofNat_of_zero_le (show 0 ≤ i by omega)
    refine (spec_l21Flags w0 a n c b bs w m ha hs (by omega) hC0).mono ?_
    rintro e w' ⟨a', k, c', zs, h1, h2, h3, h4, h5, h6, h7⟩
    exact ⟨a', k, c', zs, by omega, by omega, h3, h4, h5, h6, h7⟩
def DrewChoice (w : World) (e : Ending) (w' : World) : Prop :=
  ∃ (a1 : Option Addr) (m1 c1 : Nat) (es : List Rq) (a2 : Option Addr) (m2 c2 : Nat) (able : List Bool) (a3 : Option Addr) (m3 c3 : Nat) (hit : List Bool) (cap now : Int),
    m1 ≤ 21 ∧ m2 ≤ 22 ∧ m3 ≤ 21 ∧ -1 ≤ cap ∧ cap ≤ 1000001 ∧ 0 ≤ now ∧ now ≤ 1000001 ∧
    e = .returned (.tuple #[.slice a1 m1 c1, .slice a2 m2 c2, .slice a3 m3 c3, .int .i64 cap, .int .i64 now]) ∧ IsStructs rqF 6 w' a1 m1 c1 es ∧ IsBools w' a2 m2 c2 able ∧ IsBools w' a3 m3 c3 hit ∧ Below w.heap.size w w'
set_option maxRecDepth 100000 in
set_option maxHeartbeats 2000000 in
theorem spec_DrawChooseRequest (a : Option Addr) (n c : Nat) (bs : List Int) (w : World) (ha : IsInts .u8 w a n c bs) (hs : n ≤ 1048576) :
    Calls Try.prog 23 #[.slice a n c] w (DrewChoice w) := by
  have HA := hide ha
  clear ha
  go_enter Try.func23, Try.ntmps23
  go_wp2_with fail
  refine (new_cur a n c bs w w.heap.size (Nat.le_refl _) HA.out hs).mono ?_
  rintro e w1 ⟨b, rfl, hC1, hwb, hlb, hB1⟩
  go_wp2_with fail
  refine (spec_l19Any w a n c b bs _ HA.out hs hC1).mono ?_
  rintro e w2 ⟨l, a1, m1, c1, es, hm1, rfl, hown, hel, hC2, hg2⟩
  have HO2 := hide hown; have HL := hide hel
  have hs2 := hg2.size
  clear hown hel hC1
  go_wp2_with fail
  refine (spec_l01Below w a n c b bs _ 3 HA.out hs (by omega) hC2).mono ?_
  rintro e w3 ⟨x, x0, x1, rfl, hC3, hg3⟩
  have HO3 := hide (HO2.out.kept hg3 (own_ne HO2.out (by omega)))
  have hs3 := hg3.size
  clear hC2 HO2
  go_wp2_with fail
  refine (spec_l21FlagsI w a n c b bs _ (m1 + 1 - x) HA.out hs (by omega) (by omega) hC3).mono ?_
  rintro e w4 ⟨a2, m2, c2, able, _, hm2, rfl, hown, hal, hC4, hg4⟩
  have HO4 := hide (HO3.out.kept hg4 (own_ne HO3.out (by omega)))
  have HP4 := hide hown
  have hs4 := hg4.size
  clear hC3 HO3 hown
  go_wp2_with fail
  refine (spec_l21Flags w a n c b bs _ m1 HA.out hs (by omega) hC4).mono ?_
  rintro e w5 ⟨a3, m3, c3, hit, _, hm3, rfl, hown, hhl, hC5, hg5⟩
  have HO5 := hide (HO4.out.kept hg5 (own_ne HO4.out (by omega)))
  have HP5 := hide (HP4.out.kept hg5 (own_ne HP4.out (by omega)))
  have HQ5 := hide hown
  have hs5 := hg5.size
  clear hC4 HO4 HP4 hown
  go_wp2_with fail
  refine (spec_l01PickInt w a n c b bs (w5.alloc (.cells #[.int .i64 0, .int .i64 10, .int .i64 20, .int .i64 100, .int .i64 1000000, .int .i64 1000001, .int .i64 (-1)] 3)) (some ⟨w5.heap.size, 0, none⟩) 7 7 [0, 10, 20, 100, 1000000, 1000001, -1] HA.out hs (hC5.alloc _) (ints_lit _ _ _ 7 _ rfl rfl (by omega) (by simp; try omega)) (by omega) (by intro g o hg; injection hg with hg; injection hg with hg; omega)).mono ?_
  rintro e w6 ⟨cap, hcap, rfl, hC6, hg6⟩
  have HO6 := hide ((HO5.out.alloc _).kept hg6 (own_ne HO5.out (by omega)))
  have HP6 := hide ((HP5.out.alloc _).kept hg6 (own_ne HP5.out (by omega)))
  have HQ6 := hide ((HQ5.out.alloc _).kept hg6 (own_ne HQ5.out (by omega)))
  have hs6 := hg6.size
  simp only [World.size_alloc] at hs6
  clear hC5 HO5 HP5 HQ5
  go_wp2_with fail
  refine (spec_l01PickInt w a n c b bs (w6.alloc (.cells #[.int .i64 0, .int .i64 20, .int .i64 40, .int .i64 60, .int .i64 60, .int .i64 1000000, .int .i64 1000001] 3)) (some ⟨w6.heap.size, 0, none⟩) 7 7 [0, 20, 40, 60, 60, 1000000, 1000001] HA.out hs (hC6.alloc _) (ints_lit _ _ _ 7 _ rfl rfl (by omega) (by simp; try omega)) (by omega) (by intro g o hg; injection hg with hg; injection hg with hg; omega)).mono ?_
  rintro e w7 ⟨now, hnow, rfl, hC7, hg7⟩
  have HO7 := hide ((HO6.out.alloc _).kept hg7 (own_ne HO6.out (by omega)))
  have HP7 := hide ((HP6.out.alloc _).kept hg7 (own_ne HP6.out (by omega)))
  have HQ7 := hide ((HQ6.out.alloc _).kept hg7 (own_ne HQ6.out (by omega)))
  clear hC6 HO6 HP6 HQ6
  have hBE := cur_below hC7 (Below.refl _ _) (Nat.le_refl _)
  go_wp2_with fail
  go_returns
  exact ⟨_, m1, _, es, _, m2, _, able, _, m3, _, hit, cap, now, hm1, by omega, by omega, by simp at hcap; omega, by simp at hcap; omega, by simp at hnow; omega, by simp at hnow; omega, rfl, isStructs_own rqF_len (by omega) HO7.out, isBools_own HP7.out, isBools_own HQ7.out, hBE⟩
end Go.Proofs.Ytahfbhfmhccgoaa
