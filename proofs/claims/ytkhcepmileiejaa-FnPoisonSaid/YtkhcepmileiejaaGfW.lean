/- The field of sixteen elements: the walks of the program's functions and of the reference's. -/
import Derived.Test.YtkhcepmileiejaaGfP
import Derived.Test.YtkhcepmileiejaaBetween
set_option linter.unusedSimpArgs false
set_option linter.unusedVariables false
namespace Go.Proofs.Ytkhcepmileiejaa
open Go.RowKit Go.ChangeShapes Go.WideShapes Go.ChangeAt Go.Joins Go.Deep
open Go.ChangeMaps (open_string shut_string)
set_option maxHeartbeats 400000 in
theorem impl_isElement (a : Int) (w : World) :
    Calls Try.prog 96 #[.int .i64 a] w fun e w' => e = .returned (.bool (btw a 0 15)) ∧ w = w' := by
  go_enter Try.func96, Try.ntmps96
  go_wp2_with (first | (go_at_call 72; refine (impl_between _ _ _ _).mono ?_; rintro e w1 ⟨rfl, rfl⟩))
  go_ret
  exact ⟨rfl, rfl⟩
set_option maxHeartbeats 400000 in
theorem spec_l11Is (a : Int) (w : World) :
    Calls Try.prog 67 #[.int .i64 a] w fun e w' => e = .returned (.bool (btw a 0 15)) ∧ w = w' := by
  go_enter Try.func67, Try.ntmps67
  go_wp2_with (first | (go_at_call 59; refine (spec_l01In _ _ _ _).mono ?_; rintro e w1 ⟨rfl, rfl⟩))
  go_ret
  exact ⟨rfl, rfl⟩
theorem btw_elem {a : Nat} (h : a < 16) : btw (a : Int) 0 15 = true := btw_mk (by omega) (by omega)
theorem i64_xor (a b : Nat) (ha : a < 4294967296) (hb : b < 4294967296) : bits .xor .i64 (a : Int) (b : Int) = ((a ^^^ b : Nat) : Int) := by
  show IntKind.i64.wrap ((BitVec.ofInt 64 (a : Int) ^^^ BitVec.ofInt 64 (b : Int)).toNat : Int) = _
  rw [BitVec.toNat_xor]
  have h1 : ∀ x : Nat, x < 4294967296 → (BitVec.ofInt 64 (x : Int)).toNat = x := fun x hx => by
    rw [BitVec.ofInt_natCast, BitVec.toNat_ofNat]; exact Nat.mod_eq_of_lt (by omega)
  rw [h1 a ha, h1 b hb, IntKind.wrap_i64]
  have := Nat.xor_lt_two_pow (x := a) (y := b) (n := 32) (by omega) (by omega)
  omega
theorem i64_and1 (a : Nat) (ha : a < 4294967296) : bits .and .i64 (a : Int) 1 = ((a % 2 : Nat) : Int) := by
  show IntKind.i64.wrap ((BitVec.ofInt 64 (a : Int) &&& BitVec.ofInt 64 ((1 : Nat) : Int)).toNat : Int) = _
  rw [BitVec.toNat_and]
  have h1 : ∀ x : Nat, x < 4294967296 → (BitVec.ofInt 64 (x : Int)).toNat = x := fun x hx => by
    rw [BitVec.ofInt_natCast, BitVec.toNat_ofNat]; exact Nat.mod_eq_of_lt (by omega)
  rw [h1 a ha, h1 1 (by omega), Nat.and_one_is_mod, IntKind.wrap_i64]
  omega
theorem mulK_all : upto 16 (fun a => upto 16 fun b => upto 5 fun k => decide ((mulK a b k).1 < 16) && decide ((mulK a b k).2 < 16)) = true := by kernel_rfl
theorem mulK_bd {a b k : Nat} (ha : a < 16) (hb : b < 16) (hk : k ≤ 4) : (mulK a b k).1 < 16 ∧ (mulK a b k).2 < 16 := by
  have := of_upto (of_upto (of_upto mulK_all ha) hb) (show k < 5 by omega)
  simpa using this
set_option maxHeartbeats 800000 in
theorem impl_GfMul (a b : Nat) (w : World) (ha : a < 16) (hb : b < 16) :
    Calls Try.prog 101 #[.int .i64 a, .int .i64 b] w fun e w' => e = .returned (.int .i64 (gm a b : Nat)) ∧ w = w' := by
  have ba := btw_elem ha; have bb := btw_elem hb
  go_enter Try.func101, Try.ntmps101
  go_wp2_with (first | (go_at_call 96; refine (impl_isElement _ _).mono ?_; rintro e w1 ⟨rfl, rfl⟩))
  go_loop [0, 5, 6] (fun va vp vk => ∃ k : Nat, k ≤ 4 ∧ vk = .int .i64 k ∧ vp = .int .i64 ((mulK a b k).1 : Nat) ∧ va = .int .i64 ((mulK a b k).2 : Nat)) (fun _ _ vk => 4 - (intOf vk).toNat)
  case atStart => exact ⟨0, by omega, rfl, rfl, rfl⟩
  case round =>
    obtain ⟨k, hk, rfl, rfl, rfl⟩ := hrel
    by_cases hlt : k < 4
    · have i0 : (0 : Int) ≤ (k : Int) := by omega
      have i1 : (k : Int) < 4 := by omega
      obtain ⟨b1, b2⟩ := mulK_bd ha hb hk
      have hand : bits .and .i64 ((b : Int) / 2 ^ k) 1 = ((b / 2 ^ k % 2 : Nat) : Int) := by
        have e : (b : Int) / 2 ^ k = ((b / 2 ^ k : Nat) : Int) := by push_cast; rfl
        rw [e, i64_and1 _ (Nat.lt_of_le_of_lt (Nat.div_le_self _ _) (by omega))]
      have hwr : ((mulK a b k).2 : Int) * 2 = ((2 * (mulK a b k).2 : Nat) : Int) := by omega
      have e1 := i64_xor (mulK a b k).1 (mulK a b k).2 (by omega) (by omega)
      have e2 := i64_xor (2 * (mulK a b k).2) 19 (by omega) (by omega)
      have HE1 := hide e1; have HE2 := hide e2; have HW := hide hwr
      have q1 := Nat.mod_two_eq_zero_or_one (b / 2 ^ k)
      rcases q1 with q1 | q1
      all_goals
        rw [q1] at hand
        have h0 : (bits .and .i64 ((b : Int) / 2 ^ k) 1 == 1) = (bits .and .i64 ((b : Int) / 2 ^ k) 1 == 1) := rfl
        conv at h0 => rhs; rw [hand]
        first | (have h1 := h0.trans (show (((0 : Nat) : Int) == 1) = false from rfl)) | (have h1 := h0.trans (show (((1 : Nat) : Int) == 1) = true from rfl))
        clear h0
        by_cases q2 : 2 * (mulK a b k).2 > 15
        · have h2 : 15 < ((mulK a b k).2 : Int) * 2 := by omega
          have Q1 := hide q1; have Q2 := hide q2
          clear hand hwr e1 e2 q1 q2
          go_wp2
          go_round
          case rel => exact ⟨k + 1, by omega, by go_num, by simp only [mulK, Q1.out]; first | rfl | (rw [HE1.out]; rfl), by simp only [mulK, if_pos Q2.out]; rw [HW.out]; exact congrArg (Value.int .i64) HE2.out⟩
          case measure => simp [intOf]; omega
        · have h2 : ((mulK a b k).2 : Int) * 2 ≤ 15 := by omega
          have Q1 := hide q1; have Q2 := hide q2
          clear hand hwr e1 e2 q1 q2
          go_wp2
          go_round
          case rel => exact ⟨k + 1, by omega, by go_num, by simp only [mulK, Q1.out]; first | rfl | (rw [HE1.out]; rfl), by simp only [mulK, if_neg Q2.out]; rw [HW.out]⟩
          case measure => simp [intOf]; omega
    · obtain rfl : k = 4 := by omega
      go_wp2
      go_ret
      exact ⟨rfl, rfl⟩
/-- The reference's product: first all of it, then what lies above the fourth bit is taken away. -/
def mulS (a b : Nat) : Nat → Nat
  | 0 => 0
  | k + 1 => if b / 2 ^ k % 2 = 1 then mulS a b k ^^^ (a * 2 ^ k) else mulS a b k
def redS (o : Nat) : Nat → Nat
  | 0 => o
  | k + 1 => if redS o k / 2 ^ (6 - k) % 2 = 1 then redS o k ^^^ (19 * 2 ^ (2 - k)) else redS o k
theorem mulS_all : upto 16 (fun a => upto 16 fun b => (redS (mulS a b 4) 3 == gm a b) && (upto 5 (fun k => decide (mulS a b k < 128)) && upto 4 (fun k => decide (redS (mulS a b 4) k < 128)))) = true := by kernel_rfl
theorem mulS_is {a b : Nat} (ha : a < 16) (hb : b < 16) : redS (mulS a b 4) 3 = gm a b := by
  have := of_upto (of_upto mulS_all ha) hb
  simp only [Bool.and_eq_true, beq_iff_eq] at this; exact this.1
theorem mulS_bd {a b k : Nat} (ha : a < 16) (hb : b < 16) (hk : k ≤ 4) : mulS a b k < 128 := by
  have := of_upto (of_upto mulS_all ha) hb
  simp only [Bool.and_eq_true, beq_iff_eq] at this
  simpa using of_upto this.2.1 (show k < 5 by omega)
theorem redS_bd {a b k : Nat} (ha : a < 16) (hb : b < 16) (hk : k ≤ 3) : redS (mulS a b 4) k < 128 := by
  have := of_upto (of_upto mulS_all ha) hb
  simp only [Bool.and_eq_true, beq_iff_eq] at this
  simpa using of_upto this.2.2 (show k < 4 by omega)
set_option maxHeartbeats 800000 in
theorem spec_GfMul (a b : Nat) (w : World) (ha : a < 16) (hb : b < 16) :
    Calls Try.prog 97 #[.int .i64 a, .int .i64 b] w fun e w' => e = .returned (.int .i64 (gm a b : Nat)) ∧ w = w' := by
  have ba := btw_elem ha; have bb := btw_elem hb
  go_enter Try.func97, Try.ntmps97
  go_wp2_with (first | (go_at_call 67; refine (spec_l11Is _ _).mono ?_; rintro e w1 ⟨rfl, rfl⟩))
  go_loop [5, 6] (fun vp vk => ∃ k : Nat, k ≤ 4 ∧ vk = .int .i64 k ∧ vp = .int .i64 ((mulS a b k : Nat))) (fun _ vk => 4 - (intOf vk).toNat)
  case atStart => exact ⟨0, by omega, rfl, rfl⟩
  case round =>
    obtain ⟨k, hk, rfl, rfl⟩ := hrel
    by_cases hlt : k < 4
    · have i0 : (0 : Int) ≤ (k : Int) := by omega
      have i1 : (k : Int) < 4 := by omega
      have b1 := mulS_bd ha hb hk
      have hand : bits .and .i64 ((b : Int) / 2 ^ k) 1 = ((b / 2 ^ k % 2 : Nat) : Int) := by
        have e : (b : Int) / 2 ^ k = ((b / 2 ^ k : Nat) : Int) := by push_cast; rfl
        rw [e, i64_and1 _ (Nat.lt_of_le_of_lt (Nat.div_le_self _ _) (by omega))]
      have hp : 2 ^ k < 16 := by
        have : 2 ^ k < 2 ^ 4 := Nat.pow_lt_pow_right (by omega) hlt
        simpa using this
      have hap : a * 2 ^ k ≤ 15 * 15 := Nat.mul_le_mul (by omega) (by omega)
      have hwr : wrap64 ((a : Int) * 2 ^ k) = ((a * 2 ^ k : Nat) : Int) := by
        have e : (a : Int) * 2 ^ k = ((a * 2 ^ k : Nat) : Int) := by push_cast; rfl
        rw [e]; simp only [wrap64, IntKind.wrap_i64]; omega
      have HE1 := hide (i64_xor (mulS a b k) (a * 2 ^ k) (by omega) (by omega)); have HW := hide hwr
      have q1 := Nat.mod_two_eq_zero_or_one (b / 2 ^ k)
      rcases q1 with q1 | q1
      all_goals
        rw [q1] at hand
        have h0 : (bits .and .i64 ((b : Int) / 2 ^ k) 1 == 1) = (bits .and .i64 ((b : Int) / 2 ^ k) 1 == 1) := rfl
        conv at h0 => rhs; rw [hand]
        first | (have h1 := h0.trans (show (((0 : Nat) : Int) == 1) = false from rfl)) | (have h1 := h0.trans (show (((1 : Nat) : Int) == 1) = true from rfl))
        have Q1 := hide q1
        clear hand hwr q1 h0 hap hp
        go_wp2
        go_round
        case rel => exact ⟨k + 1, by omega, by go_num, by simp only [mulS, Q1.out]; first | rfl | (rw [HW.out, HE1.out]; rfl)⟩
        case measure => simp [intOf]; omega
    · obtain rfl : k = 4 := by omega
      go_wp2
      go_loop [5, 7] (fun vp vk => ∃ j : Nat, j ≤ 3 ∧ vk = .int .i64 (6 - j) ∧ vp = .int .i64 ((redS (mulS a b 4) j : Nat))) (fun _ vk => (intOf vk).toNat)
      case atStart => exact ⟨0, by omega, rfl, rfl⟩
      case round =>
        obtain ⟨j, hj, rfl, rfl⟩ := hrel
        have b2 := redS_bd ha hb hj
        have HD := hide (mulS_is ha hb)
        have hstep : redS (mulS a b 4) (j + 1) = if redS (mulS a b 4) j / 2 ^ (6 - j) % 2 = 1 then redS (mulS a b 4) j ^^^ (19 * 2 ^ (2 - j)) else redS (mulS a b 4) j := rfl
        generalize hr : redS (mulS a b 4) j = r at *
        have HS := hide hstep; have HR := hide hr
        clear hstep hr
        by_cases hlt : j < 3
        · have hj3 : j = 0 ∨ j = 1 ∨ j = 2 := by omega
          rcases hj3 with rfl | rfl | rfl
          · have hand : bits .and .i64 ((r : Int) / 64) 1 = ((r / 64 % 2 : Nat) : Int) := i64_and1 (r / 64) (by omega)
            have HX := hide (i64_xor r 76 (by omega) (by omega))
            rcases Nat.mod_two_eq_zero_or_one (r / 64) with q1 | q1
            · rw [q1] at hand
              have h0 : (bits .and .i64 ((r : Int) / 64) 1 == 1) = false := by rw [hand]; rfl
              have HQ := hide (show redS (mulS a b 4) 1 = r by rw [HS.out]; exact if_neg (by show ¬ r / 64 % 2 = 1; omega))
              clear hand
              go_wp2
              go_round
              case rel => exact ⟨1, by omega, rfl, by rw [HQ.out]⟩
              case measure => simp [intOf]
            · rw [q1] at hand
              have h0 : (bits .and .i64 ((r : Int) / 64) 1 == 1) = true := by rw [hand]; rfl
              have HQ := hide (show redS (mulS a b 4) 1 = r ^^^ 76 by rw [HS.out]; exact if_pos q1)
              clear hand
              go_wp2
              go_round
              case rel => exact ⟨1, by omega, rfl, by rw [HQ.out]; exact congrArg (Value.int .i64) HX.out⟩
              case measure => simp [intOf]
          · have hand : bits .and .i64 ((r : Int) / 32) 1 = ((r / 32 % 2 : Nat) : Int) := i64_and1 (r / 32) (by omega)
            have HX := hide (i64_xor r 38 (by omega) (by omega))
            rcases Nat.mod_two_eq_zero_or_one (r / 32) with q1 | q1
            · rw [q1] at hand
              have h0 : (bits .and .i64 ((r : Int) / 32) 1 == 1) = false := by rw [hand]; rfl
              have HQ := hide (show redS (mulS a b 4) 2 = r by rw [HS.out]; exact if_neg (by show ¬ r / 32 % 2 = 1; omega))
              clear hand
              go_wp2
              go_round
              case rel => exact ⟨2, by omega, rfl, by rw [HQ.out]⟩
              case measure => simp [intOf]
            · rw [q1] at hand
              have h0 : (bits .and .i64 ((r : Int) / 32) 1 == 1) = true := by rw [hand]; rfl
              have HQ := hide (show redS (mulS a b 4) 2 = r ^^^ 38 by rw [HS.out]; exact if_pos q1)
              clear hand
              go_wp2
              go_round
              case rel => exact ⟨2, by omega, rfl, by rw [HQ.out]; exact congrArg (Value.int .i64) HX.out⟩
              case measure => simp [intOf]
          · have hand : bits .and .i64 ((r : Int) / 16) 1 = ((r / 16 % 2 : Nat) : Int) := i64_and1 (r / 16) (by omega)
            have HX := hide (i64_xor r 19 (by omega) (by omega))
            rcases Nat.mod_two_eq_zero_or_one (r / 16) with q1 | q1
            · rw [q1] at hand
              have h0 : (bits .and .i64 ((r : Int) / 16) 1 == 1) = false := by rw [hand]; rfl
              have HQ := hide (show redS (mulS a b 4) 3 = r by rw [HS.out]; exact if_neg (by show ¬ r / 16 % 2 = 1; omega))
              clear hand
              go_wp2
              go_round
              case rel => exact ⟨3, by omega, rfl, by rw [HQ.out]⟩
              case measure => simp [intOf]
            · rw [q1] at hand
              have h0 : (bits .and .i64 ((r : Int) / 16) 1 == 1) = true := by rw [hand]; rfl
              have HQ := hide (show redS (mulS a b 4) 3 = r ^^^ 19 by rw [HS.out]; exact if_pos q1)
              clear hand
              go_wp2
              go_round
              case rel => exact ⟨3, by omega, rfl, by rw [HQ.out]; exact congrArg (Value.int .i64) HX.out⟩
              case measure => simp [intOf]
        · obtain rfl : j = 3 := by omega
          go_wp2
          go_ret
          exact ⟨ret_int (by rw [← HD.out, HR.out]), rfl⟩
theorem findU_hit {p : Nat → Bool} {f i : Nat} (h : p i = true) : findU p (f + 1) i = i := if_pos h
theorem findU_next {p : Nat → Bool} {f i : Nat} (h : p i = false) : findU p (f + 1) i = findU p f (i + 1) := if_neg (by rw [h]; simp)
set_option maxHeartbeats 800000 in
theorem impl_GfInv (a : Nat) (w : World) (ha : a < 16) :
    Calls Try.prog 100 #[.int .i64 a] w fun e w' => e = .returned (.int .i64 (ginv a)) ∧ w = w' := by
  go_enter Try.func100, Try.ntmps100
  go_wp2_with fail
  go_loop [3] (fun vk => ∃ k : Nat, 1 ≤ k ∧ k ≤ 16 ∧ vk = .int .i64 k ∧ Hid (ginv a = findU (fun x => gm a x == 1) (16 - k) k)) (fun vk => 16 - (intOf vk).toNat)
  case atStart => exact ⟨1, by omega, by omega, rfl, hide rfl⟩
  case round =>
    obtain ⟨k, hk0, hk1, rfl, HT⟩ := hrel
    by_cases hlt : k < 16
    · have HS := hide (show 16 - k = (15 - k) + 1 by omega)
      have hb := gm_lt ha hlt
      by_cases hq : gm a k = 1
      · have h1 : ((gm a k : Nat) : Int) = 1 := by rw [hq]; rfl
        have h2 : (k : Int) ≤ 15 := by omega
        have HQ := hide hq
        clear hq
        go_wp2_with fail
        refine (impl_GfMul a k _ ha hlt).mono ?_
        rintro e w1 ⟨rfl, rfl⟩
        go_wp2_with fail
        go_ret
        exact ⟨ret_int (by rw [HT.out, HS.out, findU_hit (by simp [HQ.out])]), rfl⟩
      · have h1 : ¬ ((gm a k : Nat) : Int) = 1 := by omega
        have h2 : (k : Int) ≤ 15 := by omega
        have HQ := hide hq
        clear hq
        go_wp2_with fail
        refine (impl_GfMul a k _ ha hlt).mono ?_
        rintro e w1 ⟨rfl, rfl⟩
        go_wp2_with fail
        go_round
        case rel => exact ⟨k + 1, by omega, by omega, by go_num, hide (by rw [HT.out, HS.out, findU_next (by simpa using HQ.out), show 15 - k = 16 - (k + 1) by omega])⟩
        case measure => simp [intOf]; omega
    · obtain rfl : k = 16 := by omega
      go_wp2_with fail
      go_ret
      exact ⟨ret_int (by rw [HT.out]; rfl), rfl⟩
set_option maxHeartbeats 800000 in
theorem impl_GfPow (a n : Nat) (w : World) (ha : a < 16) (hn : n ≤ 1000) :
    Calls Try.prog 111 #[.int .i64 a, .int .i64 n] w fun e w' => e = .returned (.int .i64 (gp a n : Nat)) ∧ w = w' := by
  have ba := btw_elem ha
  have bn : btw (n : Int) 0 1000 = true := btw_mk (by omega) (by omega)
  go_enter Try.func111, Try.ntmps111
  go_wp2_with (first | (go_at_call 72; refine (impl_between _ _ _ _).mono ?_; rintro e w1 ⟨rfl, rfl⟩) | (go_at_call 59; refine (spec_l01In _ _ _ _).mono ?_; rintro e w1 ⟨rfl, rfl⟩) | (go_at_call 96; refine (impl_isElement _ _).mono ?_; rintro e w1 ⟨rfl, rfl⟩) | (go_at_call 67; refine (spec_l11Is _ _).mono ?_; rintro e w1 ⟨rfl, rfl⟩))
  go_loop [1, 5] (fun vn vp => ∃ k : Nat, k ≤ n ∧ vn = .int .i64 ((n - k : Nat) : Int) ∧ vp = .int .i64 ((gp a k : Nat))) (fun vn _ => (intOf vn).toNat)
  case atStart => exact ⟨0, by omega, rfl, rfl⟩
  case round =>
    obtain ⟨k, hk, rfl, rfl⟩ := hrel
    have hp := gp_lt ha k
    by_cases hlt : k < n
    · have h1 : 0 < ((n - k : Nat) : Int) := by omega
      go_wp2_with fail
      refine (impl_GfMul (gp a k) a _ hp ha).mono ?_
      rintro e w1 ⟨rfl, rfl⟩
      go_wp2_with fail
      go_round
      case rel => exact ⟨k + 1, by omega, by go_num, rfl⟩
      case measure => simp [intOf]; omega
    · obtain rfl : k = n := by omega
      have h1 : ((k - k : Nat) : Int) = 0 := by omega
      go_wp2_with fail
      go_ret
      exact ⟨rfl, rfl⟩
set_option maxHeartbeats 800000 in
theorem spec_GfPow (a n : Nat) (w : World) (ha : a < 16) (hn : n ≤ 1000) :
    Calls Try.prog 98 #[.int .i64 a, .int .i64 n] w fun e w' => e = .returned (.int .i64 (gp a n : Nat)) ∧ w = w' := by
  have ba := btw_elem ha
  have bn : btw (n : Int) 0 1000 = true := btw_mk (by omega) (by omega)
  go_enter Try.func98, Try.ntmps98
  go_wp2_with (first | (go_at_call 72; refine (impl_between _ _ _ _).mono ?_; rintro e w1 ⟨rfl, rfl⟩) | (go_at_call 59; refine (spec_l01In _ _ _ _).mono ?_; rintro e w1 ⟨rfl, rfl⟩) | (go_at_call 96; refine (impl_isElement _ _).mono ?_; rintro e w1 ⟨rfl, rfl⟩) | (go_at_call 67; refine (spec_l11Is _ _).mono ?_; rintro e w1 ⟨rfl, rfl⟩))
  go_loop [5, 6] (fun vp vi => ∃ k : Nat, k ≤ n ∧ vi = .int .i64 k ∧ vp = .int .i64 ((gp a k : Nat))) (fun _ vi => n - (intOf vi).toNat)
  case atStart => exact ⟨0, by omega, rfl, rfl⟩
  case round =>
    obtain ⟨k, hk, rfl, rfl⟩ := hrel
    have hp := gp_lt ha k
    by_cases hlt : k < n
    · have h1 : (k : Int) < (n : Int) := by omega
      go_wp2_with fail
      refine (spec_GfMul (gp a k) a _ hp ha).mono ?_
      rintro e w1 ⟨rfl, rfl⟩
      go_wp2_with fail
      go_round
      case rel => exact ⟨k + 1, by omega, by go_num, rfl⟩
      case measure => simp [intOf]; omega
    · obtain rfl : k = n := by omega
      go_wp2_with fail
      go_ret
      exact ⟨rfl, rfl⟩
set_option maxHeartbeats 800000 in
theorem impl_GfLog (x : Nat) (w : World) :
    Calls Try.prog 106 #[.int .i64 x] w fun e w' => e = .returned (.int .i64 (glog x)) ∧ w = w' := by
  go_enter Try.func106, Try.ntmps106
  go_wp2_with fail
  go_loop [3] (fun vk => ∃ k : Nat, k ≤ 15 ∧ vk = .int .i64 k ∧ Hid (glog x = findU (fun n => gp 2 n == x) (15 - k) k)) (fun vk => 15 - (intOf vk).toNat)
  case atStart => exact ⟨0, by omega, rfl, hide rfl⟩
  case round =>
    obtain ⟨k, hk1, rfl, HT⟩ := hrel
    by_cases hlt : k < 15
    · have HS := hide (show 15 - k = (14 - k) + 1 by omega)
      by_cases hq : gp 2 k = x
      · have h1 : ((gp 2 k : Nat) : Int) = (x : Int) := by rw [hq]
        have HQ := hide hq
        clear hq
        go_wp2_with fail
        refine (impl_GfPow 2 k _ (by omega) (by omega)).mono ?_
        rintro e w1 ⟨rfl, rfl⟩
        go_wp2_with fail
        go_ret
        exact ⟨ret_int (by rw [HT.out, HS.out, findU_hit (by simp [HQ.out])]), rfl⟩
      · have h1 : ¬ ((gp 2 k : Nat) : Int) = (x : Int) := by omega
        have HQ := hide hq
        clear hq
        go_wp2_with fail
        refine (impl_GfPow 2 k _ (by omega) (by omega)).mono ?_
        rintro e w1 ⟨rfl, rfl⟩
        go_wp2_with fail
        go_round
        case rel => exact ⟨k + 1, by omega, by go_num, hide (by rw [HT.out, HS.out, findU_next (by simpa using HQ.out), show 14 - k = 15 - (k + 1) by omega])⟩
        case measure => simp [intOf]; omega
    · obtain rfl : k = 15 := by omega
      go_wp2_with fail
      go_ret
      exact ⟨ret_int (by rw [HT.out]; rfl), rfl⟩
end Go.Proofs.Ytkhcepmileiejaa
