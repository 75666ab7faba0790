/- The drawn lists of delays: some list of at most 65. -/
import Derived.Test.YtahfbhfmhccgoaaPlaces
import Derived.Test.YtahfbhfmhccgoaaBools
set_option linter.unusedSimpArgs false
set_option linter.unusedVariables false
namespace Go.Proofs.Ytahfbhfmhccgoaa
open Go.RowKit Go.ChangeShapes Go.WideShapes Go.ChangeAt Go.Joins Go.Deep
open Go.ChangeMaps (open_string shut_string)

theorem only_grow_own {a w w' : World} {r : Nat} {row : Option Nat} (h : a.grownBy w (some r)) (hg : w.grownBy w' row) (hr : ∀ k, row = some k → a.heap.size ≤ k) : a.grownBy w' (some r) :=
  ⟨hg.os.trans h.os, hg.tape.trans h.tape, hg.output.trans h.output, Nat.le_trans h.size hg.size, fun i hi hn => (hg.block i (Nat.lt_of_lt_of_le hi h.size) (fun e => by have := hr i e.symm; omega)).trans (h.block i hi hn)⟩

/-- Some bools, m of them, in new memory; the cursor goes on. -/
def DrewBools (w0 : World) (a : Option Addr) (n c b : Nat) (w : World) (lo hi : Nat) (e : Ending) (w' : World) : Prop :=
  ∃ (a' : Option Addr) (m c' : Nat) (zs : List Bool), lo ≤ m ∧ m ≤ hi ∧ e = .returned (.slice a' m c') ∧ w'.ownsRow w.heap.size 4 1 (.slice a' m c') m (zs.map Value.bool) ∧ zs.length = m ∧ Cur w0 a n c b w' ∧ w.grownBy w' (some b)

set_option maxHeartbeats 2000000 in
theorem spec_l27Eye (w0 : World) (a : Option Addr) (n c b : Nat) (bs : List Int) (w : World) (m : Nat) (ha : IsInts .u8 w0 a n c bs) (hs : n ≤ 1048576) (hm : m ≤ 65) (hC0 : Cur w0 a n c b w) :
    Calls Try.prog 65 #[.pointer (some ⟨b, 0, none⟩), .int .i64 m] w (DrewBools w0 a n c b w m m) := by
  obtain ⟨i0, hi, hz0, hz1, hz2⟩ := info_parts info_bool
  have HA := hide ha
  clear ha
  have hlb := hC0.lt
  have hwb : w0.heap.size ≤ b := by obtain ⟨_, _, _, _, _, h⟩ := hC0; exact h
  have hO0 := World.ownsRow_made (base := w.heap.size) (e := 4) (size := 1) w #[] 0 (Nat.le_refl _) (by decide) rfl
  go_enter Try.func65, Try.ntmps65
  go_wp2_with fail
  refine (spec_l01Below w0 a n c b bs _ ((m : Int) + 1) HA.out hs (by omega) (hC0.alloc _)).mono ?_
  rintro e w1 ⟨lo, lo_lo, lo_hi, rfl, hC1, hg1⟩
  have hG1 := only_trans (only_alloc (only_refl w (some b)) _) hg1
  have hO1 := hO0.kept hg1 (own_ne hO0 hlb)
  have hs1 := hg1.size
  simp only [World.size_alloc] at hs1
  go_wp2_with fail
  refine (spec_l01Below w0 a n c b bs _ ((m : Int) + 1) HA.out hs (by omega) hC1).mono ?_
  rintro e w2 ⟨hi', hi_lo, hi_hi, rfl, hC2, hg2⟩
  have hG2 := only_trans hG1 hg2
  have hO2 := hide (hO1.kept hg2 (own_ne hO1 hlb))
  have hs2 := hg2.size
  clear hO0 hO1
  go_wp2_with fail
  go_loopw [5, 8] (fun v i wr => ∃ (k : Nat) (a' : Option Addr) (c' : Nat) (zs : List Bool), k ≤ m ∧ i = .int .i64 k ∧ v = .slice a' k c' ∧ wr.ownsRow w.heap.size 4 1 (.slice a' k c') k (zs.map Value.bool) ∧ zs.length = k ∧ Cur w0 a n c b wr ∧ w.grownBy wr (some b) ∧ w.heap.size ≤ wr.heap.size) (fun _ i _ => m - (intOf i).toNat)
  case atStart => exact ⟨0, _, _, [], by omega, rfl, rfl, hO2.out, rfl, hC2, hG2, by omega⟩
  case round =>
    obtain ⟨k, a', c', zs, hk, rfl, rfl, hown, hzl, hC, hG, hsz⟩ := hrel
    have HZ := hide hzl
    clear hzl
    by_cases hlt : k < m
    · by_cases hA : lo ≤ (k : Int) ∧ (k : Int) < lo + hi'
      · have hA1 := hA.1; have hA2 := hA.2
        clear hA
        go_wp2_with fail
        refine (spec_l01Once w0 a n c b bs _ 12 HA.out hs (by omega) hC).mono ?_
        rintro e x4 ⟨y4, rfl, hC4, hg4⟩
        have hG4 := only_trans hG hg4
        have hown4 := hown.kept hg4 (own_ne hown hlb)
        have hsz4 := hg4.size
        cases y4
        · skip
          go_wp2_with (at_builtin; refine wpList_append_own _ rfl _ _ 26 rfl w.heap.size 4 i0 (.bool false) 1 1 Try.underlying26 hi hz0 hz1 hz2 rfl (by decide) _ _ _ rfl (hown4.alloc _) ⟨x4.heap.size, 0, none⟩ 1 1 [.bool true] rfl rfl ?p1 ?p2 ?p3 ?p4 ?p5 ?_)
          case p1 =>
            intro j u hj
            match j, hj with
            | 0, hj => simp at hj; subst hj; simp [Addr.add]
          case p2 => intro u hu; simp at hu; subst hu; rfl
          case p3 => unfold maxLen; omega
          case p4 => omega
          case p5 => simp; omega
          · intro v' wq hown3 hg3 _
            obtain ⟨a3, c3, rfl⟩ := own_shape hown3
            have hC3 := (hC4.alloc (.cells #[.bool true] 4)).grown hg3 (fun k hk => by have := (hown4.lt k hk).1; omega)
            have hG3 := only_grow_own (only_alloc hG4 (.cells #[.bool true] 4)) hg3 (fun k hk => (hown4.lt k hk).1)
            have hs3 := hg3.size
            simp at hs3
            have HO := hide hown3
            clear hown3 hg3
            go_wp2
            go_roundw
            case rel => exact ⟨k + 1, _, _, zs ++ [true], by omega, by go_num, rfl, by simpa using HO.out, by simp [HZ.out], hC3, hG3, by omega⟩
            case measure => simp [intOf]; omega
        · skip
          go_wp2_with fail
          refine (spec_l01Once w0 a n c b bs _ 10 HA.out hs (by omega) hC4).mono ?_
          rintro e x5 ⟨y5, rfl, hC5, hg5⟩
          have hG5 := only_trans hG4 hg5
          have hown5 := hown4.kept hg5 (own_ne hown4 hlb)
          have hsz5 := hg5.size
          go_wp2_with (at_builtin; refine wpList_append_own _ rfl _ _ 26 rfl w.heap.size 4 i0 (.bool false) 1 1 Try.underlying26 hi hz0 hz1 hz2 rfl (by decide) _ _ _ rfl (hown5.alloc _) ⟨x5.heap.size, 0, none⟩ 1 1 [.bool y5] rfl rfl ?q1 ?q2 ?q3 ?q4 ?q5 ?_)
          case q1 =>
            intro j u hj
            match j, hj with
            | 0, hj => simp at hj; subst hj; simp [Addr.add]
          case q2 => intro u hu; simp at hu; subst hu; rfl
          case q3 => unfold maxLen; omega
          case q4 => omega
          case q5 => simp; omega
          · intro v' wq hown3 hg3 _
            obtain ⟨a3, c3, rfl⟩ := own_shape hown3
            have hC3 := (hC5.alloc (.cells #[.bool y5] 4)).grown hg3 (fun k hk => by have := (hown5.lt k hk).1; omega)
            have hG3 := only_grow_own (only_alloc hG5 (.cells #[.bool y5] 4)) hg3 (fun k hk => (hown5.lt k hk).1)
            have hs3 := hg3.size
            simp at hs3
            have HO := hide hown3
            clear hown3 hg3
            go_wp2
            go_roundw
            case rel => exact ⟨k + 1, _, _, zs ++ [y5], by omega, by go_num, rfl, by simpa using HO.out, by simp [HZ.out], hC3, hG3, by omega⟩
            case measure => simp [intOf]; omega
      · by_cases hA1 : lo ≤ (k : Int)
        · have hA2 : ¬ (k : Int) < lo + hi' := by omega
          clear hA
          go_wp2_with fail
          refine (spec_l01Once w0 a n c b bs _ 10 HA.out hs (by omega) hC).mono ?_
          rintro e x6 ⟨y6, rfl, hC6, hg6⟩
          have hG6 := only_trans hG hg6
          have hown6 := hown.kept hg6 (own_ne hown hlb)
          have hsz6 := hg6.size
          go_wp2_with (at_builtin; refine wpList_append_own _ rfl _ _ 26 rfl w.heap.size 4 i0 (.bool false) 1 1 Try.underlying26 hi hz0 hz1 hz2 rfl (by decide) _ _ _ rfl (hown6.alloc _) ⟨x6.heap.size, 0, none⟩ 1 1 [.bool y6] rfl rfl ?r1 ?r2 ?r3 ?r4 ?r5 ?_)
          case r1 =>
            intro j u hj
            match j, hj with
            | 0, hj => simp at hj; subst hj; simp [Addr.add]
          case r2 => intro u hu; simp at hu; subst hu; rfl
          case r3 => unfold maxLen; omega
          case r4 => omega
          case r5 => simp; omega
          · intro v' wq hown3 hg3 _
            obtain ⟨a3, c3, rfl⟩ := own_shape hown3
            have hC3 := (hC6.alloc (.cells #[.bool y6] 4)).grown hg3 (fun k hk => by have := (hown6.lt k hk).1; omega)
            have hG3 := only_grow_own (only_alloc hG6 (.cells #[.bool y6] 4)) hg3 (fun k hk => (hown6.lt k hk).1)
            have hs3 := hg3.size
            simp at hs3
            have HO := hide hown3
            clear hown3 hg3
            go_wp2
            go_roundw
            case rel => exact ⟨k + 1, _, _, zs ++ [y6], by omega, by go_num, rfl, by simpa using HO.out, by simp [HZ.out], hC3, hG3, by omega⟩
            case measure => simp [intOf]; omega
        · clear hA
          go_wp2_with fail
          refine (spec_l01Once w0 a n c b bs _ 10 HA.out hs (by omega) hC).mono ?_
          rintro e x7 ⟨y7, rfl, hC7, hg7⟩
          have hG7 := only_trans hG hg7
          have hown7 := hown.kept hg7 (own_ne hown hlb)
          have hsz7 := hg7.size
          go_wp2_with (at_builtin; refine wpList_append_own _ rfl _ _ 26 rfl w.heap.size 4 i0 (.bool false) 1 1 Try.underlying26 hi hz0 hz1 hz2 rfl (by decide) _ _ _ rfl (hown7.alloc _) ⟨x7.heap.size, 0, none⟩ 1 1 [.bool y7] rfl rfl ?s1 ?s2 ?s3 ?s4 ?s5 ?_)
          case s1 =>
            intro j u hj
            match j, hj with
            | 0, hj => simp at hj; subst hj; simp [Addr.add]
          case s2 => intro u hu; simp at hu; subst hu; rfl
          case s3 => unfold maxLen; omega
          case s4 => omega
          case s5 => simp; omega
          · intro v' wq hown3 hg3 _
            obtain ⟨a3, c3, rfl⟩ := own_shape hown3
            have hC3 := (hC7.alloc (.cells #[.bool y7] 4)).grown hg3 (fun k hk => by have := (hown7.lt k hk).1; omega)
            have hG3 := only_grow_own (only_alloc hG7 (.cells #[.bool y7] 4)) hg3 (fun k hk => (hown7.lt k hk).1)
            have hs3 := hg3.size
            simp at hs3
            have HO := hide hown3
            clear hown3 hg3
            go_wp2
            go_roundw
            case rel => exact ⟨k + 1, _, _, zs ++ [y7], by omega, by go_num, rfl, by simpa using HO.out, by simp [HZ.out], hC3, hG3, by omega⟩
            case measure => simp [intOf]; omega
    · obtain rfl : k = m := by omega
      go_wp2
      go_ret
      exact ⟨_, _, _, zs, Nat.le_refl _, Nat.le_refl _, rfl, hown, HZ.out, hC, hG⟩

set_option maxHeartbeats 800000 in
theorem spec_l27Any (w0 : World) (a : Option Addr) (n c b : Nat) (bs : List Int) (w : World) (ha : IsInts .u8 w0 a n c bs) (hs : n ≤ 1048576) (hC0 : Cur w0 a n c b w) :
    Calls Try.prog 67 #[.pointer (some ⟨b, 0, none⟩)] w (DrewBools w0 a n c b w 0 65) := by
  have HA := hide ha
  clear ha
  go_enter Try.func67, Try.ntmps67
  go_wp2_with fail
  refine (spec_l01Below w0 a n c b bs _ 24 HA.out hs (by omega) hC0).mono ?_
  rintro e w1 ⟨x, x_lo, x_hi, rfl, hC1, hg1⟩
  go_wp2_with fail
  refine (spec_l01Once w0 a n c b bs _ 12 HA.out hs (by omega) hC1).mono ?_
  rintro e w2 ⟨y, rfl, hC2, hg2⟩
  have hG2 := only_trans hg1 hg2
  cases y
  · obtain ⟨m, rfl⟩ := Int.eq_ofNat_of_zero_le x_lo
    go_wp2_with fail
    refine (spec_l27Eye w0 a n c b bs _ m HA.out hs (by omega) hC2).mono ?_
    rintro e w3 ⟨a', m', c', zs, hm1, hm2, rfl, hown, hzl, hC3, hg3⟩
    have HO := hide (own_base hown hG2.size); have HZ := hide hzl
    clear hown hzl
    go_wp2_with fail
    go_ret
    exact ⟨_, _, _, zs, by omega, by omega, rfl, HO.out, HZ.out, hC3, only_trans hG2 hg3⟩
  · go_wp2_with fail
    refine (spec_l01Below w0 a n c b bs _ 2 HA.out hs (by omega) hC2).mono ?_
    rintro e w3 ⟨z, z_lo, z_hi, rfl, hC3, hg3⟩
    have hG3 := only_trans hG2 hg3
    obtain ⟨m, hm⟩ : ∃ m : Nat, (m : Int) = 64 + z := ⟨(64 + z).toNat, by omega⟩
    have hm9 : m ≤ 65 := by omega
    have hE := hide (spec_l27Eye w0 a n c b bs w3 m HA.out hs (by omega) hC3)
    rw [hm] at hE
    clear hm
    go_wp2_with fail
    refine hE.out.mono ?_
    rintro e w4 ⟨a', m', c', zs, hm1, hm2, rfl, hown, hzl, hC4, hg4⟩
    have HO := hide (own_base hown hG3.size); have HZ := hide hzl
    clear hown hzl
    go_wp2_with fail
    go_ret
    exact ⟨_, _, _, zs, by omega, by omega, rfl, HO.out, HZ.out, hC4, only_trans hG3 hg4⟩

def SomeBools (w : World) (hi : Nat) (e : Ending) (w' : World) : Prop :=
  ∃ (a' : Option Addr) (m c' : Nat) (zs : List Bool), m ≤ hi ∧ e = .returned (.slice a' m c') ∧ w'.ownsRow w.heap.size 4 1 (.slice a' m c') m (zs.map Value.bool) ∧ zs.length = m ∧ Below w.heap.size w w'
end Go.Proofs.Ytahfbhfmhccgoaa
