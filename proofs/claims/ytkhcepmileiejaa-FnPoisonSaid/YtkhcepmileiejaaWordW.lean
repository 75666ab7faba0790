/- Words of symbols: the walks of the program's functions and of the reference's. -/
import Derived.Test.YtkhcepmileiejaaGfW
import Derived.Test.YtkhcepmileiejaaArP
import Derived.Test.YtkhcepmileiejaaInts
import Derived.Test.YtkhcepmileiejaaSts
import Derived.Deep.RegionLaw
set_option linter.unusedSimpArgs false
set_option linter.unusedVariables false
namespace Go.Proofs.Ytkhcepmileiejaa
open Go.RowKit Go.ChangeShapes Go.WideShapes Go.ChangeAt Go.Joins Go.Deep
open Go.ChangeMaps (open_string shut_string)
theorem all_no {α : Type} {xs : List α} {p : α → Bool} {k : Nat} {z : α} (h : xs[k]? = some z) (hp : p z = false) : xs.all p = false := by
  rw [List.all_eq_false]; exact ⟨z, List.mem_of_getElem? h, by simp [hp]⟩
theorem all_next {α : Type} {xs : List α} {p : α → Bool} {k : Nat} {z : α} (h : xs[k]? = some z) (hp : p z = true) (ha : (xs.take k).all p = true) : (xs.take (k + 1)).all p = true := by
  rw [take_snoc h, List.all_append, ha]; simp [hp]
set_option maxHeartbeats 800000 in
theorem impl_SymbolsOk (a : Option Addr) (n c : Nat) (zs : List Int) (m : Int) (v : Bool) (w : World) (hv : symOkB zs m = v) (ha : IsInts .i64 w a n c zs) :
    Calls Try.prog 71 #[.slice a n c, .int .i64 m] w fun e w' => e = .returned (.bool v) ∧ w = w' := by
  obtain ⟨hn, hc, hm, hw, hr⟩ := ha
  have Hr := hide hr; have HN := hide hn; have HV := hide hv
  have hm' : c ≤ 9223372036854775807 := hm
  clear hr hw hm hn hv
  go_enter Try.func71, Try.ntmps71
  go_wp2
  go_loop [9] (fun i => ∃ k : Nat, k ≤ n ∧ i = .int .i64 k ∧ Hid ((zs.take k).all (fun z => btw z 0 15) = true)) (fun i => n - (intOf i).toNat)
  case atStart => exact ⟨0, by omega, rfl, hide (by simp)⟩
  case round =>
    obtain ⟨k, hk, rfl, HT⟩ := hrel
    by_cases hlt : k < n
    · obtain ⟨z, b1, o1, hz, rfl, hlb, hc1⟩ := Hr.out.get (k := k) (by rw [HN.out]; exact hlt)
      have HZ := hide hz
      have h1 : (0 : Int) ≤ (k : Int) := by omega
      have h2 : (k : Int) < (n : Int) := by omega
      clear hz
      cases hb : btw z 0 15
      · go_wp2_with (first | (go_at_call 96; refine (impl_isElement _ _).mono ?_; rintro e w1 ⟨rfl, rfl⟩))
        go_ret
        exact ⟨ret_bool (by rw [← HV.out]; unfold symOkB; rw [all_no HZ.out hb]; rfl), by first | rfl | assumption⟩
      · go_wp2_with (first | (go_at_call 96; refine (impl_isElement _ _).mono ?_; rintro e w1 ⟨rfl, rfl⟩))
        go_round
        case rel => exact ⟨k + 1, by omega, by go_num, hide (all_next HZ.out hb HT.out)⟩
        case measure => simp [intOf]; omega
    · obtain rfl : k = n := by omega
      have HV : Hid (v = ((k : Int) == m)) := by
        have := HT.out
        rw [List.take_of_length_le (by rw [HN.out]; exact Nat.le_refl _)] at this
        exact hide (by rw [← HV.out]; unfold symOkB; rw [this, HN.out]; rfl)
      go_wp2
      go_ret
      exact ⟨ret_bool HV.out.symm, rfl⟩
set_option maxHeartbeats 800000 in
theorem spec_SymbolsOk (a : Option Addr) (n c : Nat) (zs : List Int) (m : Int) (v : Bool) (w : World) (hv : symOkB zs m = v) (ha : IsInts .i64 w a n c zs) :
    Calls Try.prog 74 #[.slice a n c, .int .i64 m] w fun e w' => e = .returned (.bool v) ∧ w = w' := by
  obtain ⟨hn, hc, hm, hw, hr⟩ := ha
  have Hr := hide hr; have HN := hide hn; have HV := hide hv
  have hm' : c ≤ 9223372036854775807 := hm
  clear hr hw hm hn hv
  go_enter Try.func74, Try.ntmps74
  go_wp2
  go_loop [5] (fun i => ∃ k : Nat, k ≤ n ∧ i = .int .i64 k ∧ Hid ((zs.take k).all (fun z => btw z 0 15) = true)) (fun i => n - (intOf i).toNat)
  case atStart => exact ⟨0, by omega, rfl, hide (by simp)⟩
  case round =>
    obtain ⟨k, hk, rfl, HT⟩ := hrel
    by_cases hlt : k < n
    · obtain ⟨z, b1, o1, hz, rfl, hlb, hc1⟩ := Hr.out.get (k := k) (by rw [HN.out]; exact hlt)
      have HZ := hide hz
      have h1 : (0 : Int) ≤ (k : Int) := by omega
      have h2 : (k : Int) < (n : Int) := by omega
      clear hz
      cases hb : btw z 0 15
      · go_wp2_with (first | (go_at_call 67; refine (spec_l11Is _ _).mono ?_; rintro e w1 ⟨rfl, rfl⟩))
        go_ret
        exact ⟨ret_bool (by rw [← HV.out]; unfold symOkB; rw [all_no HZ.out hb]; rfl), by first | rfl | assumption⟩
      · go_wp2_with (first | (go_at_call 67; refine (spec_l11Is _ _).mono ?_; rintro e w1 ⟨rfl, rfl⟩))
        go_round
        case rel => exact ⟨k + 1, by omega, by go_num, hide (all_next HZ.out hb HT.out)⟩
        case measure => simp [intOf]; omega
    · obtain rfl : k = n := by omega
      have HV : Hid (v = ((k : Int) == m)) := by
        have := HT.out
        rw [List.take_of_length_le (by rw [HN.out]; exact Nat.le_refl _)] at this
        exact hide (by rw [← HV.out]; unfold symOkB; rw [this, HN.out]; rfl)
      go_wp2
      go_ret
      exact ⟨ret_bool HV.out.symm, rfl⟩
/-- Three numbers, in a row. -/
def row3 (f : Nat → Nat) : List Value := [.int .i64 (f 0 : Nat), .int .i64 (f 1 : Nat), .int .i64 (f 2 : Nat)]
theorem row3_set (f : Nat → Nat) (j v : Nat) (hj : j < 3) : (row3 f).set j (.int .i64 (v : Nat)) = row3 (fun m => if m = j then v else f m) := by
  have : j = 0 ∨ j = 1 ∨ j = 2 := by omega
  rcases this with rfl | rfl | rfl <;> simp [row3]
theorem row3_at (f : Nat → Nat) (j : Nat) (hj : j < 3) : (row3 f)[j]? = some (.int .i64 (f j : Nat)) := by
  have : j = 0 ∨ j = 1 ∨ j = 2 := by omega
  rcases this with rfl | rfl | rfl <;> rfl
theorem row3_congr {f g : Nat → Nat} (h : ∀ m, m < 3 → f m = g m) : row3 f = row3 g := by
  unfold row3; rw [h 0 (by omega), h 1 (by omega), h 2 (by omega)]
theorem ints_map (ws : List Nat) : (ints ws).map (Value.int .i64) = ws.map fun (x : Nat) => Value.int .i64 (x : Int) := by simp [ints]
theorem ints_get {ws : List Nat} {k : Nat} (h : k < ws.length) : (ints ws)[k]? = some ((ws.getD k 0 : Nat) : Int) := by
  simp [ints, List.getElem?_map, List.getElem?_eq_getElem h, List.getD_eq_getElem?_getD]
theorem ints_wf {ws : List Nat} (h : Sym ws) : ∀ z ∈ ints ws, (Lit.int .i64 z).wf = true := by
  intro z hz
  simp only [ints, List.mem_map] at hz
  obtain ⟨x, hx, rfl⟩ := hz
  have := h x hx
  show (decide (IntKind.min .i64 ≤ (x : Int)) && decide ((x : Int) ≤ IntKind.max .i64)) = true
  rw [show IntKind.min .i64 = -9223372036854775808 from rfl, show IntKind.max .i64 = 9223372036854775807 from rfl]
  simp; omega
theorem impl_GfPow_is (a n : Nat) (z : Int) (v : Nat) (w : World) (hz : z = n) (hv : gp a n = v) (ha : a < 16) (hn : n ≤ 1000) :
    Calls Try.prog 111 #[.int .i64 a, .int .i64 z] w fun e w' => e = .returned (.int .i64 (v : Nat)) ∧ w = w' := by subst hz hv; exact impl_GfPow a n w ha hn
theorem impl_GfMul_is (a b v : Nat) (w : World) (hv : gm a b = v) (ha : a < 16) (hb : b < 16) :
    Calls Try.prog 101 #[.int .i64 a, .int .i64 b] w fun e w' => e = .returned (.int .i64 (v : Nat)) ∧ w = w' := by subst hv; exact impl_GfMul a b w ha hb
set_option maxRecDepth 100000 in
set_option maxHeartbeats 1000000 in
theorem impl_Syndromes (a : Option Addr) (c : Nat) (ws : List Nat) (w : World) (hS : Sym ws) (hl : ws.length = 11) (ha : IsInts .i64 w a 11 c (ints ws)) :
    Calls Try.prog 99 #[.slice a 11 c] w fun e w' => ∃ a' c', e = .returned (.slice a' 3 c') ∧ w'.ownsRow w.heap.size 3 1 (.slice a' 3 c') 3 (row3 fun j => syn ws j) ∧ Below w.heap.size w w' := by
  obtain ⟨i0, hi, hz0, hz1, hz2⟩ := info_parts info_int
  have HA := hide ha; have HS := hide hS; have HL := hide hl
  have hok := symOk_ints hS hl
  have hc := ha.2.1; have hm : c ≤ 9223372036854775807 := ha.2.2.1
  clear ha hS hl
  go_enter Try.func99, Try.ntmps99
  go_wp2_with fail
  refine (impl_SymbolsOk _ _ _ _ _ true _ hok HA.out).mono ?_
  rintro e w1 ⟨rfl, rfl⟩
  go_wp2_with (at_make; refine wpList_make_full _ rfl _ _ 25 rfl w.heap.size 3 i0 _ 1 Try.underlying25 hi hz0 hz1 _ _ _ _ 3 rfl rfl rfl rfl (by rw [hz2]; omega) (by unfold maxLen; omega) (Nat.le_refl _) ?_; intro w0 hown hg; have hb0 : Below w.heap.size w w0 := (Below.refl _ _).grown hg (Nat.le_refl _) (fun k h => by cases h))
  go_loopw [13] (fun v wr => ∃ j : Nat, j ≤ 3 ∧ v = .int .i64 j ∧ Below w.heap.size w wr ∧ wr.ownsRow w.heap.size 3 1 (.slice (some ⟨w.heap.size, 0, none⟩) 3 3) 3 (row3 fun m => if m < j then syn ws m else 0)) (fun v _ => 3 - (intOf v).toNat)
  case atStart => exact ⟨0, by omega, rfl, hb0, by
    have := hown
    rw [Nat.mul_one, show (Value.int .i64 0).cells = #[.int .i64 0] from rfl, toList_madeCells_one] at this
    exact this⟩
  case round =>
    clear hown hg hb0
    obtain ⟨j, hj, rfl, hB, hown⟩ := hrel
    by_cases hlt : j < 3
    · have h1 : (0 : Int) ≤ (j : Int) := by omega
      have h2 : (j : Int) < 3 := by omega
      have HO := hide hown
      clear hown
      go_wp2_with fail
      go_loopw [18] (fun v wi => ∃ i : Nat, i ≤ 11 ∧ v = .int .i64 i ∧ Below w.heap.size w wi ∧ wi.ownsRow w.heap.size 3 1 (.slice (some ⟨w.heap.size, 0, none⟩) 3 3) 3 (row3 fun m => if m < j then syn ws m else if m = j then synTo ws j i else 0)) (fun v _ => 11 - (intOf v).toNat)
      case atStart => exact ⟨0, by omega, rfl, hB, by
        have := HO.out
        rw [row3_congr (g := fun m => if m < j then syn ws m else if m = j then synTo ws j 0 else 0) (fun m hm => by simp [synTo])] at this
        exact this⟩
      case round =>
        clear HO
        obtain ⟨i, hi2, rfl, hB, hown⟩ := hrel
        by_cases hlt2 : i < 11
        · obtain ⟨z, b1, o1, hz, rfl, hlb, hc1⟩ := HA.out.2.2.2.2.get (k := i) (by rw [ints_len, HL.out]; exact hlt2)
          rw [ints_get (by rw [HL.out]; exact hlt2)] at hz
          injection hz with hz
          subst hz
          have e0 := (hB.cell (p := ⟨b1, o1 + i, none⟩) hlb).trans hc1
          have e1 := (hown.cellAt j (by omega)).trans (row3_at _ j hlt)
          rw [if_neg (Nat.lt_irrefl j), if_pos rfl] at e1
          have e2 := hown.frozenAt j
          have x16 := HS.out.at i
          have g16 : gp 2 (i * j) < 16 := gp_lt (by omega) _
          have s16 := synTo_lt HS.out j i
          have hnew : synTo ws j (i + 1) = synTo ws j i ^^^ gm (ws.getD i 0) (gp 2 (i * j)) := rfl
          have HX := hide (i64_xor (synTo ws j i) (gm (ws.getD i 0) (gp 2 (i * j))) (by omega) (by have := gm_lt x16 g16; omega))
          have HN := hide hnew
          have hij : i * j ≤ 1000 := Nat.le_trans (Nat.mul_le_mul (show i ≤ 11 by omega) (show j ≤ 3 by omega)) (by omega)
          have HIJ := hide hij; have HG := hide g16; have HX16 := hide x16
          have HO := hide hown
          have i0 : (0 : Int) ≤ (i : Int) := by omega
          have i1 : (i : Int) < 11 := by omega
          obtain ⟨p, hp⟩ : ∃ p, p = i * j := ⟨_, rfl⟩
          have hmul : IntKind.i64.wrap ((i : Int) * (j : Int)) = (p : Int) := by rw [← Int.natCast_mul, ← hp, IntKind.wrap_i64]; omega
          rw [← hp] at HIJ HG HX HN
          clear hp hij
          generalize hz0 : synTo ws j i = z0 at *
          generalize hz1 : gp 2 p = z1 at *
          generalize hz2 : ws.getD i 0 = z2 at *
          generalize hz3 : gm z2 z1 = z3 at *
          have HZ0 := hide hz0; have HZ1 := hide hz1; have HZ2 := hide hz2; have HZ3 := hide hz3
          clear hown hc1 hnew x16 g16 s16 hz0 hz1 hz2 hz3
          go_wp2_with fail
          go_region_law (first | (go_simp; go_at_call 111; refine (impl_GfPow_is 2 p _ z1 _ rfl HZ1.out (by omega) HIJ.out).mono ?_; rintro e w1 ⟨rfl, rfl⟩) | (go_simp; go_at_call 101; refine (impl_GfMul_is z2 z1 z3 _ HZ3.out HX16.out HG.out).mono ?_; rintro e w1 ⟨rfl, rfl⟩))
          all_goals
            go_wp2
            go_roundw
            case rel =>
              refine ⟨i + 1, by omega, by go_num, by go_grown, ?_⟩
              have hst := (HO.out.stored j (.int .i64 (synTo ws j (i + 1) : Nat))).1
              rw [row3_set _ _ _ hlt, HN.out] at hst
              rw [HX.out]
              rw [row3_congr (g := fun m => if m = j then z0 ^^^ z3 else if m < j then syn ws m else if m = j then z0 else 0)]
              · exact hst.drew
              · intro m hm
                by_cases hmj : m = j
                · subst hmj; rw [if_neg (Nat.lt_irrefl m), if_pos rfl, if_pos rfl, HN.out]
                · rw [if_neg hmj, if_neg hmj, if_neg hmj]
            case measure => simp [intOf]; omega
        · obtain rfl : i = 11 := by omega
          have HO := hide hown
          clear hown
          go_wp2_with fail
          go_roundw
          case rel =>
            refine ⟨j + 1, by omega, by go_num, hB, ?_⟩
            rw [row3_congr (g := fun m => if m < j then syn ws m else if m = j then synTo ws j 11 else 0)]
            · exact HO.out
            · intro m hm
              by_cases hmj : m < j
              · rw [if_pos hmj, if_pos (by omega)]
              · by_cases hm2 : m = j
                · subst hm2; rw [if_pos (by omega), if_neg hmj, if_pos rfl]; unfold syn; rw [HL.out]
                · rw [if_neg (by omega), if_neg hmj, if_neg hm2]
          case measure => simp [intOf]; omega
    · obtain rfl : j = 3 := by omega
      have HO := hide hown
      clear hown
      go_wp2_with fail
      go_ret
      refine ⟨_, _, rfl, ?_, hB⟩
      rw [row3_congr (g := fun m => if m < 3 then syn ws m else 0) (fun m hm => by rw [if_pos hm])]
      exact HO.out
theorem facT_lt {x : Nat} (hx : x < 16) : ∀ j, facT x j < 16
  | 0 => by show 1 < 16; omega
  | j + 1 => gm_lt (facT_lt hx j) hx
theorem spec_GfPow_is (a n : Nat) (z : Int) (v : Nat) (w : World) (hz : z = n) (hv : gp a n = v) (ha : a < 16) (hn : n ≤ 1000) :
    Calls Try.prog 98 #[.int .i64 a, .int .i64 z] w fun e w' => e = .returned (.int .i64 (v : Nat)) ∧ w = w' := by subst hz hv; exact spec_GfPow a n w ha hn
theorem spec_GfMul_is (a b v : Nat) (w : World) (hv : gm a b = v) (ha : a < 16) (hb : b < 16) :
    Calls Try.prog 97 #[.int .i64 a, .int .i64 b] w fun e w' => e = .returned (.int .i64 (v : Nat)) ∧ w = w' := by subst hv; exact spec_GfMul a b w ha hb
set_option maxRecDepth 100000 in
set_option maxHeartbeats 1000000 in
theorem spec_Syndromes (a : Option Addr) (c : Nat) (ws : List Nat) (w : World) (hS : Sym ws) (hl : ws.length = 11) (ha : IsInts .i64 w a 11 c (ints ws)) :
    Calls Try.prog 112 #[.slice a 11 c] w fun e w' => ∃ a' c', e = .returned (.slice a' 3 c') ∧ w'.ownsRow w.heap.size 3 1 (.slice a' 3 c') 3 (row3 fun j => syn ws j) ∧ Below w.heap.size w w' := by
  obtain ⟨i0, hi, hz0, hz1, hz2⟩ := info_parts info_int
  have HA := hide ha; have HS := hide hS; have HL := hide hl
  have hok := symOk_ints hS hl
  have hc := ha.2.1; have hm : c ≤ 9223372036854775807 := ha.2.2.1
  clear ha hS hl
  go_enter Try.func112, Try.ntmps112
  go_wp2_with fail
  refine (spec_SymbolsOk _ _ _ _ _ true _ hok HA.out).mono ?_
  rintro e w1 ⟨rfl, rfl⟩
  go_wp2_with (at_make; refine wpList_make_full _ rfl _ _ 25 rfl w.heap.size 3 i0 _ 1 Try.underlying25 hi hz0 hz1 _ _ _ _ 3 rfl rfl rfl rfl (by rw [hz2]; omega) (by unfold maxLen; omega) (Nat.le_refl _) ?_; intro w0 hown hg; have hb0 : Below w.heap.size w w0 := (Below.refl _ _).grown hg (Nat.le_refl _) (fun k h => by cases h))
  go_loopw [4] (fun v wr => ∃ i : Nat, i ≤ 11 ∧ v = .int .i64 i ∧ Below w.heap.size w wr ∧ wr.ownsRow w.heap.size 3 1 (.slice (some ⟨w.heap.size, 0, none⟩) 3 3) 3 (row3 fun m => synTo ws m i)) (fun v _ => 11 - (intOf v).toNat)
  case atStart => exact ⟨0, by omega, rfl, hb0, by
    have := hown
    rw [Nat.mul_one, show (Value.int .i64 0).cells = #[.int .i64 0] from rfl, toList_madeCells_one] at this
    exact this⟩
  case round =>
    clear hown hg hb0
    obtain ⟨i, hi2, rfl, hB, hown⟩ := hrel
    by_cases hlt : i < 11
    · have i0 : (0 : Int) ≤ (i : Int) := by omega
      have i1 : (i : Int) < 11 := by omega
      have HO := hide hown
      have x16 := HS.out.at i
      have g16 : gp 2 i < 16 := gp_lt (by omega) _
      obtain ⟨z, b1, o1, hz, rfl, hlb, hc1⟩ := HA.out.2.2.2.2.get (k := i) (by rw [ints_len, HL.out]; exact hlt)
      rw [ints_get (by rw [HL.out]; exact hlt)] at hz
      injection hz with hz
      subst hz
      have HC1 := hide hc1
      have HFA := hide (fun j (hj : j < 3) => fac_is (i := i) (j := j) hlt hj)
      have HFL := hide (fun j => facT_lt g16 j)
      obtain ⟨z1, hz1⟩ : ∃ z1, gp 2 i = z1 := ⟨_, rfl⟩
      have HZ1 := hide hz1
      rw [hz1] at HFL HFA g16
      obtain ⟨z2, hz2⟩ : ∃ z2, ws.getD i 0 = z2 := ⟨_, rfl⟩
      have HZ2 := hide hz2
      rw [hz2] at HC1 x16
      have HG := hide g16; have HX16 := hide x16
      clear hown hc1 hz1 hz2 g16 x16
      go_wp2_with fail
      refine (spec_GfPow_is 2 i _ z1 _ rfl HZ1.out (by omega) (by omega)).mono ?_
      rintro e w1 ⟨rfl, rfl⟩
      go_wp2_with fail
      go_loopw [5, 7] (fun vf v wi => ∃ j : Nat, j ≤ 3 ∧ v = .int .i64 j ∧ vf = .int .i64 (facT z1 j : Nat) ∧ Below w.heap.size w wi ∧ wi.ownsRow w.heap.size 3 1 (.slice (some ⟨w.heap.size, 0, none⟩) 3 3) 3 (row3 fun m => if m < j then synTo ws m (i + 1) else synTo ws m i)) (fun _ v _ => 3 - (intOf v).toNat)
      case atStart => exact ⟨0, by omega, rfl, rfl, hB, by
        have := HO.out
        rw [row3_congr (g := fun m => if m < 0 then synTo ws m (i + 1) else synTo ws m i) (fun m hm => by simp)] at this
        exact this⟩
      case round =>
        clear HO
        obtain ⟨j, hj, rfl, rfl, hB, hown⟩ := hrel
        by_cases hlt2 : j < 3
        · have e0 := (hB.cell (p := ⟨b1, o1 + i, none⟩) hlb).trans HC1.out
          have e1 := (hown.cellAt j (by omega)).trans (row3_at _ j hlt2)
          rw [if_neg (Nat.lt_irrefl j)] at e1
          have e2 := hown.frozenAt j
          have s16 := synTo_lt HS.out j i
          have f16 := HFL.out j
          have hnew : synTo ws j (i + 1) = synTo ws j i ^^^ gm z2 (facT z1 j) := by rw [HFA.out j hlt2]; show _ ^^^ gm (ws.getD i 0) _ = _; rw [HZ2.out]
          have HX := hide (i64_xor (synTo ws j i) (gm z2 (facT z1 j)) (by omega) (by have := gm_lt HX16.out f16; omega))
          have HN := hide hnew
          have HF := hide f16
          have HO := hide hown
          have j0 : (0 : Int) ≤ (j : Int) := by omega
          have j1 : (j : Int) < 3 := by omega
          have HNF : Hid (facT z1 (j + 1) = gm (facT z1 j) z1) := hide rfl
          generalize hz0 : synTo ws j i = z0 at *
          generalize hzf : facT z1 j = zf at *
          generalize hz3 : gm z2 zf = z3 at *
          generalize hz4 : gm zf z1 = z4 at *
          have HZ3 := hide hz3; have HZ4 := hide hz4; have HZ0 := hide hz0
          clear hown hnew s16 f16 hz0 hzf hz3 hz4
          go_wp2_with fail
          go_region_law (first | (go_simp; go_at_call 97; refine (spec_GfMul_is z2 zf z3 _ HZ3.out HX16.out HF.out).mono ?_; rintro e w1 ⟨rfl, rfl⟩))
          all_goals
            go_wp2_with fail
            refine (spec_GfMul_is zf z1 z4 _ HZ4.out HF.out HG.out).mono ?_
            rintro e w1 ⟨rfl, rfl⟩
            go_wp2
            go_roundw
            case rel =>
              refine ⟨j + 1, by omega, by go_num, by rw [HNF.out], by go_grown, ?_⟩
              have hst := (HO.out.stored j (.int .i64 (synTo ws j (i + 1) : Nat))).1
              rw [row3_set _ _ _ hlt2, HN.out] at hst
              rw [HX.out]
              rw [row3_congr (g := fun m => if m = j then z0 ^^^ z3 else if m < j then synTo ws m (i + 1) else synTo ws m i)]
              · exact hst.drew
              · intro m hm
                by_cases hmj : m = j
                · subst hmj; rw [if_pos (by omega), if_pos rfl, HN.out]
                · rw [if_neg hmj]
                  by_cases hm2 : m < j
                  · rw [if_pos hm2, if_pos (by omega)]
                  · rw [if_neg hm2, if_neg (by omega)]
            case measure => simp [intOf]; omega
        · obtain rfl : j = 3 := by omega
          have HO := hide hown
          clear hown
          go_wp2_with fail
          go_roundw
          case rel =>
            refine ⟨i + 1, by omega, by go_num, hB, ?_⟩
            rw [row3_congr (g := fun m => if m < 3 then synTo ws m (i + 1) else synTo ws m i) (fun m hm => by rw [if_pos hm])]
            exact HO.out
          case measure => simp [intOf]; omega
    · obtain rfl : i = 11 := by omega
      have HO := hide hown
      clear hown
      go_wp2_with fail
      go_ret
      refine ⟨_, _, rfl, ?_, hB⟩
      rw [row3_congr (g := fun m => synTo ws m 11) (fun m hm => by unfold syn; rw [HL.out])]
      exact HO.out
end Go.Proofs.Ytkhcepmileiejaa
