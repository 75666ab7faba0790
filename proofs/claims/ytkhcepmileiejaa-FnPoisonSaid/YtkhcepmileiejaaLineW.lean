/- A word's symbols and the word that symbols make; a line's code: the walks. -/
import Derived.Test.YtkhcepmileiejaaCorrS
import Derived.Test.YtkhcepmileiejaaEncS
set_option linter.unusedSimpArgs false
set_option linter.unusedVariables false
namespace Go.Proofs.Ytkhcepmileiejaa
open Go.RowKit Go.ChangeShapes Go.WideShapes Go.ChangeAt Go.Joins Go.Deep
open Go.ChangeMaps (open_string shut_string)
set_option maxHeartbeats 400000 in
theorem impl_IsWord (x : Int) (w : World) :
    Calls Try.prog 50 #[.int .i64 x] w fun e w' => e = .returned (.bool (btw x 0 4294967295)) ∧ w = w' := by
  go_enter Try.func50, Try.ntmps50
  go_wp2_with (first | (go_at_call 72; refine (impl_between _ _ _ _).mono ?_; rintro e w1 ⟨rfl, rfl⟩))
  go_ret
  exact ⟨rfl, rfl⟩
set_option maxHeartbeats 400000 in
theorem spec_IsWord (x : Int) (w : World) :
    Calls Try.prog 48 #[.int .i64 x] w fun e w' => e = .returned (.bool (btw x 0 4294967295)) ∧ w = w' := by
  go_enter Try.func48, Try.ntmps48
  go_wp2_with (first | (go_at_call 59; refine (spec_l01In _ _ _ _).mono ?_; rintro e w1 ⟨rfl, rfl⟩))
  go_ret
  exact ⟨rfl, rfl⟩
theorem btw_word {x : Nat} (h : x < 4294967296) : btw (x : Int) 0 4294967295 = true := btw_mk (by omega) (by omega)
theorem i64_and15 (a : Nat) (ha : a < 4294967296) : bits .and .i64 (a : Int) 15 = ((a % 16 : Nat) : Int) := by
  show IntKind.i64.wrap ((BitVec.ofInt 64 (a : Int) &&& BitVec.ofInt 64 ((15 : Nat) : Int)).toNat : Int) = _
  rw [BitVec.toNat_and]
  have h1 : ∀ x : Nat, x < 4294967296 → (BitVec.ofInt 64 (x : Int)).toNat = x := fun x hx => by
    rw [BitVec.ofInt_natCast, BitVec.toNat_ofNat]; exact Nat.mod_eq_of_lt (by omega)
  rw [h1 a ha, h1 15 (by omega), show (15 : Nat) = 2 ^ 4 - 1 from rfl, Nat.and_two_pow_sub_one_eq_mod, IntKind.wrap_i64]
  omega
theorem i64_or (a b : Nat) (ha : a < 4294967296) (hb : b < 4294967296) : bits .or .i64 (a : Int) (b : Int) = ((a ||| b : Nat) : Int) := by
  show IntKind.i64.wrap ((BitVec.ofInt 64 (a : Int) ||| BitVec.ofInt 64 (b : Int)).toNat : Int) = _
  rw [BitVec.toNat_or]
  have h1 : ∀ x : Nat, x < 4294967296 → (BitVec.ofInt 64 (x : Int)).toNat = x := fun x hx => by
    rw [BitVec.ofInt_natCast, BitVec.toNat_ofNat]; exact Nat.mod_eq_of_lt (by omega)
  rw [h1 a ha, h1 b hb, IntKind.wrap_i64]
  have := Nat.or_lt_two_pow (x := a) (y := b) (n := 32) (by omega) (by omega)
  omega
theorem wordTo_or {d : List Nat} (h : Sym d) (k : Nat) : wordTo d k ||| d.getD k 0 * 16 ^ k = wordTo d (k + 1) := by
  have h1 := wordTo_lt h k
  rw [show (16 : Nat) ^ k = 2 ^ (4 * k) by rw [Nat.pow_mul]] at h1 ⊢
  rw [Nat.or_comm, Nat.mul_comm, ← Nat.two_pow_add_eq_or_of_lt h1]
  simp only [wordTo]
  rw [show (16 : Nat) ^ k = 2 ^ (4 * k) by rw [Nat.pow_mul], Nat.mul_comm, Nat.add_comm]
set_option maxRecDepth 100000 in
set_option maxHeartbeats 1000000 in
theorem impl_SymbolsOfWord (x : Nat) (w : World) (hx : x < 4294967296) :
    Calls Try.prog 82 #[.int .i64 x] w (Fresh w 3 1 8 ((ints (symsOf x)).map (.int .i64))) := by
  obtain ⟨i0_int, hi_int, hz0_int, hz1_int, hz2_int⟩ := info_parts info_int
  have bx := btw_word hx
  go_enter Try.func82, Try.ntmps82
  go_wp2_with (first | (go_at_call 50; refine (impl_IsWord _ _).mono ?_; rintro e w1 ⟨rfl, rfl⟩))
  go_loopw [3, 4] (fun vo vi wr => ∃ (k : Nat) (a' : Option Addr) (c' : Nat), k ≤ 8 ∧ vi = .int .i64 k ∧ vo = .slice a' k c' ∧ wr.ownsRow w.heap.size 3 1 (.slice a' k c') k ((ints ((symsOf x).take k)).map (.int .i64)) ∧ Below w.heap.size w wr) (fun _ vi _ => 8 - (intOf vi).toNat)
  case atStart => exact ⟨0, _, _, by omega, rfl, rfl, World.ownsRow_made (base := w.heap.size) (e := 3) (size := 1) w #[] 0 (Nat.le_refl _) (by decide) rfl, Below.alloc (Below.refl _ _) (Nat.le_refl _) _⟩
  case round =>
    obtain ⟨k, a', c', hk, rfl, rfl, hown, hB⟩ := hrel
    have hs := hB.size
    by_cases hlt : k < 8
    · have i0 : (0 : Int) ≤ (k : Int) := by omega
      have i1 : (k : Int) < 8 := by omega
      have HO := hide hown
      clear hown
      have hand : bits .and .i64 ((x : Int) / 2 ^ (4 * k)) 15 = ((x / 16 ^ k % 16 : Nat) : Int) := by
        have e : (x : Int) / 2 ^ (4 * k) = ((x / 16 ^ k : Nat) : Int) := by
          rw [show (2 : Int) ^ (4 * k) = ((16 ^ k : Nat) : Int) by rw [Int.pow_mul]; push_cast; rfl]; push_cast; rfl
        rw [e, i64_and15 _ (Nat.lt_of_le_of_lt (Nat.div_le_self _ _) hx)]
      have hnx : (symsOf x)[k]? = some (x / 16 ^ k % 16) := by simp [symsOf, hlt]
      generalize x / 16 ^ k % 16 = y at *
      have HNX := hide (take_snoc hnx)
      clear hnx
      go_wp2_with (at_builtin; refine wpList_append_own _ rfl _ _ 25 rfl w.heap.size 3 i0_int (.int .i64 0) 1 8 Try.underlying25 hi_int hz0_int hz1_int hz2_int rfl (by decide) _ _ _ rfl (HO.out.alloc _) ⟨wr.heap.size, 0, none⟩ 1 1 [.int .i64 (y : Nat)] rfl rfl ?c1p ?c2p ?c3p ?c4p ?c5p ?_)
      (try case c1p => exact news_at_of _ _ _ (by go_size))
      (try case c2p => first | exact List.all_eq_true.1 rfl | rfl)
      (try case c3p => (unfold maxLen; omega))
      (try case c4p => omega)
      (try case c5p => (first | go_size | (simp; omega)))
      intro v' wp hownp hgp _
      obtain ⟨ap, cp, rfl⟩ := own_shape hownp
      obtain ⟨hBp, hsp⟩ := below_app hB HO.out (by omega) (by omega) hgp
      have HGp := hide hgp; clear hgp
      go_wp2
      go_roundw
      case rel => exact ⟨k + 1, _, _, by omega, by go_num, rfl, by rw [HNX.out]; simpa [ints] using hownp, hBp⟩
      case measure => simp [intOf]; omega
    · obtain rfl : k = 8 := by omega
      have HO := hide hown
      clear hown
      go_wp2
      go_ret
      exact ⟨_, _, rfl, by have := HO.out; rw [List.take_of_length_le (by rw [(syms_sym x).2]; exact Nat.le_refl _)] at this; exact this, hB⟩
set_option maxHeartbeats 1000000 in
theorem impl_WordOfSymbols (a : Option Addr) (c : Nat) (ds : List Nat) (w : World) (hS : Sym ds) (hl : ds.length = 8) (ha : IsInts .i64 w a 8 c (ints ds)) :
    Calls Try.prog 107 #[.slice a 8 c] w fun e w' => e = .returned (.tuple #[.int .i64 (wordOf ds : Nat), .bool true]) ∧ ∃ m, w' = w.drewN m := by
  have HA := hide ha; have HS := hide hS; have HL := hide hl
  have hok := symOk_ints hS hl
  have hc := ha.2.1; have hm : c ≤ 9223372036854775807 := ha.2.2.1
  clear ha hS hl
  go_enter Try.func107, Try.ntmps107
  go_wp2_with fail
  refine (impl_SymbolsOk _ _ _ _ _ true _ hok HA.out).mono ?_
  rintro e w1 ⟨rfl, rfl⟩
  go_wp2_with fail
  go_loop [4, 12] (fun vx vi => ∃ k : Nat, k ≤ 8 ∧ vi = .int .i64 k ∧ vx = .int .i64 (wordTo ds k : Nat)) (fun _ vi => 8 - (intOf vi).toNat)
  case atStart => exact ⟨0, by omega, rfl, rfl⟩
  case round =>
    obtain ⟨k, hk, rfl, rfl⟩ := hrel
    by_cases hlt : k < 8
    · obtain ⟨z, b1, o1, hz, rfl, hlb, hc1⟩ := HA.out.2.2.2.2.get (k := k) (by rw [ints_len, HL.out]; exact hlt)
      rw [ints_get (by rw [HL.out]; exact hlt)] at hz
      injection hz with hz
      subst hz
      have i0 : (0 : Int) ≤ (k : Int) := by omega
      have i1 : (k : Int) < 8 := by omega
      have d16 := HS.out.at k
      have hp : 16 ^ k ≤ 16 ^ 7 := Nat.pow_le_pow_right (by omega) (by omega)
      have hw := wordTo_lt HS.out k
      have hm1 : ds.getD k 0 * 16 ^ k ≤ 15 * 16 ^ 7 := Nat.mul_le_mul (by omega) hp
      have hshl : wrap64 ((ds.getD k 0 : Int) * 2 ^ (4 * k)) = ((ds.getD k 0 * 16 ^ k : Nat) : Int) := by
        have e : (ds.getD k 0 : Int) * 2 ^ (4 * k) = ((ds.getD k 0 * 16 ^ k : Nat) : Int) := by
          rw [show (2 : Int) ^ (4 * k) = ((16 ^ k : Nat) : Int) by rw [Int.pow_mul]; push_cast; rfl]; push_cast; rfl
        rw [e]; simp only [wrap64, IntKind.wrap_i64]; omega
      have hor := i64_or (wordTo ds k) (ds.getD k 0 * 16 ^ k) (by omega) (by omega)
      rw [wordTo_or HS.out k] at hor
      have HOR := hide hor; have HSH := hide hshl
      generalize ds.getD k 0 = d at *
      obtain ⟨v, hv⟩ : ∃ v, d * 16 ^ k = v := ⟨_, rfl⟩
      rw [hv] at HOR HSH
      have HX := HSH.out; have HY := HOR.out
      clear hp hw hm1 hshl hor hv HSH
      go_wp2
      go_round
      case rel => exact ⟨k + 1, by omega, by go_num, by first | rfl | (rw [HX, HY]) | (simp only [HX, HY])⟩
      case measure => simp [intOf]; omega
    · obtain rfl : k = 8 := by omega
      go_wp2
      go_returns
      exact ⟨by unfold wordOf; rw [HL.out]; rfl, 0, rfl⟩
set_option maxRecDepth 100000 in
set_option maxHeartbeats 1000000 in
theorem spec_SymbolsOfWord (x : Nat) (w : World) (hx : x < 4294967296) :
    Calls Try.prog 79 #[.int .i64 x] w (Fresh w 3 1 8 ((ints (symsOf x)).map (.int .i64))) := by
  obtain ⟨i0_int, hi_int, hz0_int, hz1_int, hz2_int⟩ := info_parts info_int
  have bx := btw_word hx
  go_enter Try.func79, Try.ntmps79
  go_wp2_with fail
  go_loopw [3, 4] (fun vo vi wr => ∃ (k : Nat) (a' : Option Addr) (c' : Nat), k ≤ 8 ∧ vi = .int .i64 k ∧ vo = .slice a' k c' ∧ wr.ownsRow w.heap.size 3 1 (.slice a' k c') k ((ints ((symsOf x).take k)).map (.int .i64)) ∧ Below w.heap.size w wr) (fun _ vi _ => 8 - (intOf vi).toNat)
  case atStart => exact ⟨0, _, _, by omega, rfl, rfl, World.ownsRow_made (base := w.heap.size) (e := 3) (size := 1) w #[] 0 (Nat.le_refl _) (by decide) rfl, Below.alloc (Below.refl _ _) (Nat.le_refl _) _⟩
  case round =>
    obtain ⟨k, a', c', hk, rfl, rfl, hown, hB⟩ := hrel
    have hs := hB.size
    by_cases hlt : k < 8
    · have i0 : (0 : Int) ≤ (k : Int) := by omega
      have i1 : (k : Int) < 8 := by omega
      have HO := hide hown
      clear hown
      have hand : bits .and .i64 ((x : Int) / 2 ^ (4 * k)) 15 = ((x / 16 ^ k % 16 : Nat) : Int) := by
        have e : (x : Int) / 2 ^ (4 * k) = ((x / 16 ^ k : Nat) : Int) := by
          rw [show (2 : Int) ^ (4 * k) = ((16 ^ k : Nat) : Int) by rw [Int.pow_mul]; push_cast; rfl]; push_cast; rfl
        rw [e, i64_and15 _ (Nat.lt_of_le_of_lt (Nat.div_le_self _ _) hx)]
      have hnx : (symsOf x)[k]? = some (x / 16 ^ k % 16) := by simp [symsOf, hlt]
      generalize x / 16 ^ k % 16 = y at *
      have HNX := hide (take_snoc hnx)
      clear hnx
      go_wp2_with fail
      refine (spec_IsWord _ _).mono ?_
      rintro e w1 ⟨rfl, rfl⟩
      go_wp2_with (at_builtin; refine wpList_append_own _ rfl _ _ 25 rfl w.heap.size 3 i0_int (.int .i64 0) 1 8 Try.underlying25 hi_int hz0_int hz1_int hz2_int rfl (by decide) _ _ _ rfl (HO.out.alloc _) ⟨wr.heap.size, 0, none⟩ 1 1 [.int .i64 (y : Nat)] rfl rfl ?c1p ?c2p ?c3p ?c4p ?c5p ?_)
      (try case c1p => exact news_at_of _ _ _ (by go_size))
      (try case c2p => first | exact List.all_eq_true.1 rfl | rfl)
      (try case c3p => (unfold maxLen; omega))
      (try case c4p => omega)
      (try case c5p => (first | go_size | (simp; omega)))
      intro v' wp hownp hgp _
      obtain ⟨ap, cp, rfl⟩ := own_shape hownp
      obtain ⟨hBp, hsp⟩ := below_app hB HO.out (by omega) (by omega) hgp
      have HGp := hide hgp; clear hgp
      go_wp2
      go_roundw
      case rel => exact ⟨k + 1, _, _, by omega, by go_num, rfl, by rw [HNX.out]; simpa [ints] using hownp, hBp⟩
      case measure => simp [intOf]; omega
    · obtain rfl : k = 8 := by omega
      have HO := hide hown
      clear hown
      go_wp2
      go_ret
      exact ⟨_, _, rfl, by have := HO.out; rw [List.take_of_length_le (by rw [(syms_sym x).2]; exact Nat.le_refl _)] at this; exact this, hB⟩
set_option maxHeartbeats 1000000 in
theorem spec_WordOfSymbols (a : Option Addr) (c : Nat) (ds : List Nat) (w : World) (hS : Sym ds) (hl : ds.length = 8) (ha : IsInts .i64 w a 8 c (ints ds)) :
    Calls Try.prog 103 #[.slice a 8 c] w fun e w' => e = .returned (.tuple #[.int .i64 (wordOf ds : Nat), .bool true]) ∧ ∃ m, w' = w.drewN m := by
  have HA := hide ha; have HS := hide hS; have HL := hide hl
  have hok := symOk_ints hS hl
  have hc := ha.2.1; have hm : c ≤ 9223372036854775807 := ha.2.2.1
  clear ha hS hl
  go_enter Try.func103, Try.ntmps103
  go_wp2_with fail
  refine (spec_SymbolsOk _ _ _ _ _ true _ hok HA.out).mono ?_
  rintro e w1 ⟨rfl, rfl⟩
  go_wp2_with fail
  go_loop [4, 5] (fun vx vi => ∃ k : Nat, k ≤ 8 ∧ vi = .int .i64 k ∧ vx = .int .i64 (wordTo ds k : Nat)) (fun _ vi => 8 - (intOf vi).toNat)
  case atStart => exact ⟨0, by omega, rfl, rfl⟩
  case round =>
    obtain ⟨k, hk, rfl, rfl⟩ := hrel
    by_cases hlt : k < 8
    · obtain ⟨z, b1, o1, hz, rfl, hlb, hc1⟩ := HA.out.2.2.2.2.get (k := k) (by rw [ints_len, HL.out]; exact hlt)
      rw [ints_get (by rw [HL.out]; exact hlt)] at hz
      injection hz with hz
      subst hz
      have i0 : (0 : Int) ≤ (k : Int) := by omega
      have i1 : (k : Int) < 8 := by omega
      have d16 := HS.out.at k
      have hp : 16 ^ k ≤ 16 ^ 7 := Nat.pow_le_pow_right (by omega) (by omega)
      have hw := wordTo_lt HS.out k
      have hm1 : ds.getD k 0 * 16 ^ k ≤ 15 * 16 ^ 7 := Nat.mul_le_mul (by omega) hp
      have hshl : wrap64 ((ds.getD k 0 : Int) * 2 ^ (4 * k)) = ((ds.getD k 0 * 16 ^ k : Nat) : Int) := by
        have e : (ds.getD k 0 : Int) * 2 ^ (4 * k) = ((ds.getD k 0 * 16 ^ k : Nat) : Int) := by
          rw [show (2 : Int) ^ (4 * k) = ((16 ^ k : Nat) : Int) by rw [Int.pow_mul]; push_cast; rfl]; push_cast; rfl
        rw [e]; simp only [wrap64, IntKind.wrap_i64]; omega
      have hor := i64_or (wordTo ds k) (ds.getD k 0 * 16 ^ k) (by omega) (by omega)
      rw [wordTo_or HS.out k] at hor
      have HOR := hide hor; have HSH := hide hshl
      generalize ds.getD k 0 = d at *
      obtain ⟨v, hv⟩ : ∃ v, d * 16 ^ k = v := ⟨_, rfl⟩
      rw [hv] at HOR HSH
      have HX := HSH.out; have HY := HOR.out
      clear hp hw hm1 hshl hor hv HSH
      go_wp2
      go_round
      case rel => exact ⟨k + 1, by omega, by go_num, by first | rfl | (rw [HX, HY]) | (simp only [HX, HY])⟩
      case measure => simp [intOf]; omega
    · obtain rfl : k = 8 := by omega
      go_wp2
      go_returns
      exact ⟨by unfold wordOf; rw [HL.out]; rfl, 0, rfl⟩
theorem corrW_good {ws : List Nat} (hS : Sym ws) (hl : ws.length = 11) : Sym (corrW ws).1 ∧ (corrW ws).1.length = 11 ∧ ((corrW ws).2.1 = 2 ∨ ((corrW ws).2.1 = 0 ∧ (corrW ws).1 = ws ∨ (corrW ws).2.1 = 1) ∧ ∀ j, j < 3 → syn (corrW ws).1 j = 0) := by
  by_cases h0 : syn ws 0 = 0 ∧ syn ws 1 = 0 ∧ syn ws 2 = 0
  · rw [corrW_clean h0]
    refine ⟨hS, hl, .inr ⟨.inl ⟨rfl, rfl⟩, fun j hj => ?_⟩⟩
    have : j = 0 ∨ j = 1 ∨ j = 2 := by omega
    rcases this with rfl | rfl | rfl
    · exact h0.1
    · exact h0.2.1
    · exact h0.2.2
  · rcases corrS_bd (syn ws 0) (syn ws 1) (syn ws 2) with h1 | ⟨k, h1, h2⟩
    · rw [corrW_lost h0 (by rw [h1]; omega)]
      exact ⟨hS, hl, .inl rfl⟩
    · rw [corrW_fixed h0 h1]
      exact ⟨turn_sym hS (syn_lt hS 0), by rw [turn_len, hl], .inr ⟨.inr rfl, (fixed_clean hS hl h1).2⟩⟩
def GotWx (w : World) (cw : List Nat) (code pos : Int) (e : Ending) (w' : World) : Prop :=
  ∃ a c, e = .returned (.tuple #[.slice a 11 c, .int .i64 code, .int .i64 pos]) ∧ w'.ownsRow w.heap.size 3 1 (.slice a 11 c) 11 ((ints cw).map (.int .i64)) ∧ Below w.heap.size w w'
theorem impl_CorrectWord_is (a : Option Addr) (c : Nat) (ws cw : List Nat) (code pos : Int) (w : World) (hco : corrW ws = (cw, code, pos)) (hS : Sym ws) (hl : ws.length = 11) (ha : IsInts .i64 w a 11 c (ints ws)) :
    Calls Try.prog 84 #[.slice a 11 c] w (GotWx w cw code pos) := by
  have := impl_CorrectWord a c ws w hS hl ha
  unfold GotW at this; rw [hco] at this; exact this
theorem spec_CorrectWord_is (a : Option Addr) (c : Nat) (ws cw : List Nat) (code pos : Int) (w : World) (hco : corrW ws = (cw, code, pos)) (hS : Sym ws) (hl : ws.length = 11) (ha : IsInts .i64 w a 11 c (ints ws)) :
    Calls Try.prog 102 #[.slice a 11 c] w (GotWx w cw code pos) := by
  have := spec_CorrectWord a c ws w hS hl ha
  unfold GotW at this; rw [hco] at this; exact this
def decX (ws : List Nat) : Nat := if (corrW ws).2.1 = 2 then 0 else wordOf ((corrW ws).1.drop 3)
set_option maxHeartbeats 1000000 in
theorem impl_EncodeLine (x : Nat) (w : World) (hx : x < 4294967296) :
    Calls Try.prog 53 #[.int .i64 x] w (Fresh w 3 1 11 ((ints (encS (symsOf x))).map (.int .i64))) := by
  have bx := btw_word hx
  go_enter Try.func53, Try.ntmps53
  go_wp2_with fail
  refine (impl_IsWord _ _).mono ?_
  rintro e w1 ⟨rfl, rfl⟩
  go_wp2_with fail
  refine (impl_SymbolsOfWord x _ hx).mono ?_
  rintro e w1 ⟨a1, c1, rfl, o1, h1⟩
  have hs := h1.size
  go_wp2_with fail
  refine (impl_EncodeSymbols _ _ (symsOf x) _ (syms_sym x).1 (syms_sym x).2 (isInts_own o1 (ints_wf (syms_sym x).1))).mono ?_
  rintro e w2 ⟨a2, c2, rfl, o2, h2⟩
  go_wp2_with fail
  go_ret
  exact ⟨_, _, rfl, own_base o2 hs, bthen h1 h2 hs⟩
set_option maxRecDepth 100000 in
set_option maxHeartbeats 1000000 in
theorem impl_DecodeLine (a : Option Addr) (c : Nat) (ws : List Nat) (w : World) (hS : Sym ws) (hl : ws.length = 11) (ha : IsInts .i64 w a 11 c (ints ws)) :
    Calls Try.prog 85 #[.slice a 11 c] w fun e w' => e = .returned (.tuple #[.int .i64 (decX ws : Nat), .int .i64 (corrW ws).2.1, .int .i64 (corrW ws).2.2]) ∧ Below w.heap.size w w' := by
  obtain ⟨g1, g2, g3⟩ := corrW_good hS hl
  have HD : Hid (decX ws = if (corrW ws).2.1 = 2 then 0 else wordOf ((corrW ws).1.drop 3)) := hide rfl
  obtain ⟨cw, code, pos, hco⟩ : ∃ cw code pos, corrW ws = (cw, code, pos) := ⟨_, _, _, rfl⟩
  rw [hco] at g1 g2 g3 HD ⊢
  simp only at g1 g2 g3 HD ⊢
  have HCO := hide hco
  clear hco
  go_enter Try.func85, Try.ntmps85
  go_wp2_with fail
  refine (impl_CorrectWord_is _ _ ws cw code pos _ HCO.out hS hl ha).mono ?_
  rintro e w1 ⟨a1, c1, rfl, o1, h1⟩
  have hs := h1.size
  have O1 := hide o1; have G1 := hide g1; have G2 := hide g2
  clear o1 ha
  by_cases h2 : code = 2
  · subst h2
    have HX : Hid (decX ws = 0) := hide (by rw [HD.out, if_pos rfl])
    clear g3 g1 g2
    go_wp2_with fail
    go_returns
    exact ⟨by rw [HX.out]; rfl, h1⟩
  · have HX : Hid (decX ws = wordOf (cw.drop 3)) := hide (by rw [HD.out, if_neg h2])
    clear g3 g1 g2
    go_wp2_with fail
    refine (impl_DataOf _ _ cw _ G1.out G2.out (isInts_own O1.out (ints_wf G1.out))).mono ?_
    rintro e w2 ⟨a2, c2, rfl, o2, h2'⟩
    have H12 := hide (bthen h1 h2' hs)
    have O2 := hide o2
    clear o2
    go_wp2_with fail
    refine (impl_WordOfSymbols _ _ (cw.drop 3) _ (G1.out.drop 3) (by simp [G2.out]) (isInts_own O2.out (ints_wf (G1.out.drop 3)))).mono ?_
    rintro e w3 ⟨rfl, m, rfl⟩
    go_wp2_with fail
    go_returns
    exact ⟨by rw [HX.out]; rfl, bdrawn H12.out m⟩
set_option maxHeartbeats 1000000 in
theorem spec_EncodeLine (x : Nat) (w : World) (hx : x < 4294967296) :
    Calls Try.prog 49 #[.int .i64 x] w (Fresh w 3 1 11 ((ints (encS (symsOf x))).map (.int .i64))) := by
  have bx := btw_word hx
  go_enter Try.func49, Try.ntmps49
  go_wp2_with fail
  refine (spec_SymbolsOfWord x _ hx).mono ?_
  rintro e w1 ⟨a1, c1, rfl, o1, h1⟩
  have hs := h1.size
  go_wp2_with fail
  refine (spec_EncodeSymbols _ _ (symsOf x) _ (syms_sym x).1 (syms_sym x).2 (isInts_own o1 (ints_wf (syms_sym x).1))).mono ?_
  rintro e w2 ⟨a2, c2, rfl, o2, h2⟩
  go_wp2_with fail
  go_ret
  exact ⟨_, _, rfl, own_base o2 hs, bthen h1 h2 hs⟩
set_option maxRecDepth 100000 in
set_option maxHeartbeats 1000000 in
theorem spec_DecodeLine (a : Option Addr) (c : Nat) (ws : List Nat) (w : World) (hS : Sym ws) (hl : ws.length = 11) (ha : IsInts .i64 w a 11 c (ints ws)) :
    Calls Try.prog 83 #[.slice a 11 c] w fun e w' => e = .returned (.tuple #[.int .i64 (decX ws : Nat), .int .i64 (corrW ws).2.1, .int .i64 (corrW ws).2.2]) ∧ Below w.heap.size w w' := by
  obtain ⟨g1, g2, g3⟩ := corrW_good hS hl
  have HD : Hid (decX ws = if (corrW ws).2.1 = 2 then 0 else wordOf ((corrW ws).1.drop 3)) := hide rfl
  obtain ⟨cw, code, pos, hco⟩ : ∃ cw code pos, corrW ws = (cw, code, pos) := ⟨_, _, _, rfl⟩
  rw [hco] at g1 g2 g3 HD ⊢
  simp only at g1 g2 g3 HD ⊢
  have HCO := hide hco
  clear hco
  go_enter Try.func83, Try.ntmps83
  go_wp2_with fail
  refine (spec_CorrectWord_is _ _ ws cw code pos _ HCO.out hS hl ha).mono ?_
  rintro e w1 ⟨a1, c1, rfl, o1, h1⟩
  have hs := h1.size
  have O1 := hide o1; have G1 := hide g1; have G2 := hide g2
  clear o1 ha
  by_cases h2 : code = 2
  · subst h2
    have HX : Hid (decX ws = 0) := hide (by rw [HD.out, if_pos rfl])
    clear g3 g1 g2
    go_wp2_with fail
    go_returns
    exact ⟨by rw [HX.out]; rfl, h1⟩
  · have HX : Hid (decX ws = wordOf (cw.drop 3)) := hide (by rw [HD.out, if_neg h2])
    clear g3 g1 g2
    go_wp2_with fail
    refine (spec_DataOf _ _ cw _ G1.out G2.out (isInts_own O1.out (ints_wf G1.out))).mono ?_
    rintro e w2 ⟨a2, c2, rfl, o2, h2'⟩
    have H12 := hide (bthen h1 h2' hs)
    have O2 := hide o2
    clear o2
    go_wp2_with fail
    refine (spec_WordOfSymbols _ _ (cw.drop 3) _ (G1.out.drop 3) (by simp [G2.out]) (isInts_own O2.out (ints_wf (G1.out.drop 3)))).mono ?_
    rintro e w3 ⟨rfl, m, rfl⟩
    go_wp2_with fail
    go_returns
    exact ⟨by rw [HX.out]; rfl, bdrawn H12.out m⟩
end Go.Proofs.Ytkhcepmileiejaa
