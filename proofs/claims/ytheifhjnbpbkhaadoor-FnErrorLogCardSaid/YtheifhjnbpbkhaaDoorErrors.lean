/- Lists of error entries: what ErrorsOk computes, of the program and of the reference, and the laws' helpers. -/
import Derived.Test.YtheifhjnbpbkhaaDoorSts
import Derived.Test.YtheifhjnbpbkhaaDoorBetween
import Derived.Deep.RegionHeld3
import Derived.Deep.RegionWith
set_option linter.unusedSimpArgs false
set_option linter.unusedVariables false
namespace Go.Proofs.YtheifhjnbpbkhaaDoor
open Go.RowKit Go.ChangeShapes Go.WideShapes Go.ChangeAt Go.Joins Go.Deep
open Go.ChangeMaps (open_string shut_string)

structure En where
  line : Int
  code : Int
  times : Int
def enF (e : En) : List Value := [.int .i64 e.line, .int .i64 e.code, .int .i64 e.times]
theorem enF_len (e : En) : (enF e).length = 3 := rfl
theorem info_En : (Tryd.prog.info? 58).map (fun i => (i.zero, i.size, i.bytes)) = some (some (.agg #[.int .i64 0, .int .i64 0, .int .i64 0]), 3, 24) := by kernel_rfl
theorem isErrorEntrys_of {H : Type} {enc : TypeId × Value → H} {w : World} {base : Nat} {held : Bool} {fuel : Nat} {cs : List Value} {x : DataW H × List MemPlace}
    (h : DataW.trod enc Tryd.prog w base (fun _ => true) held fuel 22 cs = some x) : ∃ a n c es, cs = [.slice a n c] ∧ IsStructs enF 3 w a n c es := by
  rcases open_slice_fields Tryd.underlying22 Tryd.underlying61 (by kernel_rfl) (by kernel_rfl) h with h0 | ⟨a, len, cap, hcs, hl, hm, hi⟩
  · exact ⟨none, 0, 0, [], h0, rfl, Nat.le_refl _, Nat.zero_le _, RowIn.nil _ _⟩
  · obtain ⟨es, hlen, hes⟩ := exists_list (P := fun i (e : En) => ∀ j v, (enF e)[j]? = some v → w.cell? (a.add (i * 3 + j)) = some v) len (fun i hi' => by
      obtain ⟨n, hf⟩ := hi i hi'
      obtain ⟨v0, y0, c0, t0⟩ := hf 0 _ rfl
      obtain ⟨v1, y1, c1, t1⟩ := hf 1 _ rfl
      obtain ⟨v2, y2, c2, t2⟩ := hf 2 _ rfl
      obtain ⟨z0, e0, _, _⟩ := DataW.trod_int Tryd.underlying3 t0
      obtain ⟨z1, e1, _, _⟩ := DataW.trod_int Tryd.underlying3 t1
      obtain ⟨z2, e2, _, _⟩ := DataW.trod_int Tryd.underlying3 t2
      simp only [List.cons.injEq, and_true] at e0 e1 e2
      subst e0 e1 e2
      refine ⟨⟨z0, z1, z2⟩, fun j v hv => ?_⟩
      match j, hv with
      | 0, hv => simp [enF] at hv; subst hv; exact c0
      | 1, hv => simp [enF] at hv; subst hv; exact c1
      | 2, hv => simp [enF] at hv; subst hv; exact c2)
    refine ⟨some a, len, cap, es, hcs, hlen, hl, hm, rowIn_of fun i v hv => ?_⟩
    obtain ⟨k, j, e, rfl, he, hj, _⟩ := flat_of enF_len es i v hv
    exact hes k e he j v hj
set_option maxHeartbeats 400000 in
theorem laws_toErrorEntry (e : En) (w : World) :
    Calls Tryd.prog 39 #[.agg #[.int .i64 e.line, .int .i64 e.code, .int .i64 e.times]] w fun r w' => r = .returned (.agg #[.int .i64 e.line, .int .i64 e.code, .int .i64 e.times]) ∧ Below w.heap.size w w' := by
  go_enter Tryd.func39, Tryd.ntmps39
  go_wp2
  go_returns
  exact ⟨rfl, by go_grown⟩
set_option maxHeartbeats 400000 in
theorem laws_eqErrorEntry (e : En) (w : World) :
    Calls Tryd.prog 42 #[.agg #[.int .i64 e.line, .int .i64 e.code, .int .i64 e.times], .agg #[.int .i64 e.line, .int .i64 e.code, .int .i64 e.times]] w fun r w' => r = .returned (.bool true) ∧ Below w.heap.size w w' := by
  go_enter Tryd.func42, Tryd.ntmps42
  go_wp2
  go_ret
  exact ⟨rfl, by go_grown⟩
set_option maxRecDepth 100000 in
set_option maxHeartbeats 1000000 in
theorem laws_toErrorEntryS (a : Option Addr) (n c : Nat) (es : List En) (w : World) (ha : IsStructs enF 3 w a n c es) (hs : n ≤ 1048576) :
    Calls Tryd.prog 12 #[.slice a n c] w (Fresh w 58 3 n (es.flatMap enF)) := by
  obtain ⟨i0, hi, hz0, hz1, hz2⟩ := info_parts info_En
  have HA := hide ha
  have hc := ha.2.1
  clear ha
  go_enter Tryd.func12, Tryd.ntmps12
  go_wp2_with (at_make; refine wpList_make_full _ rfl _ _ 25 rfl w.heap.size 58 i0 _ 3 Tryd.underlying25 hi hz0 hz1 _ _ _ _ n rfl rfl rfl rfl (by rw [hz2]; omega) (by unfold maxLen; omega) (Nat.le_refl _) ?_; intro w0 hown hg; have hb0 : Below w.heap.size w w0 := (Below.refl _ _).grown hg (Nat.le_refl _) (fun k h => by cases h))
  go_loopw [4] (fun i wr => ∃ k : Nat, k ≤ n ∧ i = .int .i64 k ∧ Below w.heap.size w wr ∧ wr.ownsRow w.heap.size 58 3 (.slice (some ⟨w.heap.size, 0, none⟩) n n) n ((es.take k).flatMap enF ++ (List.replicate (n - k) [.int .i64 0, .int .i64 0, .int .i64 0]).flatten)) (fun i _ => n - (intOf i).toNat)
  case atStart =>
    refine ⟨0, by omega, rfl, hb0, ?_⟩
    have := hown
    rw [made_row (sz := 3) _ rfl, show (Value.agg #[.int .i64 0, .int .i64 0, .int .i64 0]).cells.toList = [.int .i64 0, .int .i64 0, .int .i64 0] from rfl] at this
    simpa using this
  case round =>
    clear hown hg hb0
    obtain ⟨k, hk, rfl, hB, hown⟩ := hrel
    by_cases hlt : k < n
    · obtain ⟨e, b1, o1, he, rfl, hlb, hcell⟩ := HA.out.get enF_len (by omega) hlt
      have e0 : wr.cell? ⟨b1, o1 + k * 3, none⟩ = some (.int .i64 e.line) := (hB.cell (p := ⟨b1, o1 + (k * 3 + 0), none⟩) hlb).trans (hcell 0 _ rfl)
      have e1 : wr.cell? ⟨b1, o1 + k * 3 + 1, none⟩ = some (.int .i64 e.code) := (hB.cell (p := ⟨b1, o1 + (k * 3 + 1), none⟩) hlb).trans (hcell 1 _ rfl)
      have e2 : wr.cell? ⟨b1, o1 + k * 3 + 2, none⟩ = some (.int .i64 e.times) := (hB.cell (p := ⟨b1, o1 + (k * 3 + 2), none⟩) hlb).trans (hcell 2 _ rfl)
      have HE := hide he
      have h1 : (0 : Int) ≤ (k : Int) := by omega
      have h2 : (k : Int) < (n : Int) := by omega
      have hsz := (hown.lt w.heap.size rfl).2
      have HO := hide hown
      clear hcell he hown
      go_wp2_with fail
      refine (laws_toErrorEntry e _).mono ?_
      rintro r w1 ⟨rfl, h1'⟩
      have HO1 := hide (own_below HO.out h1' (fun j hj => by injection hj with hj; rw [← hj]; exact hsz))
      have hB1 : Below w.heap.size w w1 := bthen hB h1' (by omega)
      have hc0 : ∀ j, j < 3 → ∃ u, w1.cell? ⟨w.heap.size, k * 3 + j, none⟩ = some u := fun j hj => ⟨_, (HO1.out.cellAt (k * 3 + j) (by omega)).trans (List.getElem?_eq_getElem (by rw [HO1.out.1]; omega))⟩
      obtain ⟨u0, c0⟩ := hc0 0 (by omega)
      obtain ⟨u1, c1⟩ := hc0 1 (by omega)
      obtain ⟨u2, c2⟩ := hc0 2 (by omega)
      replace c0 : w1.cell? ⟨w.heap.size, k * 3, none⟩ = some u0 := c0
      have fr := fun j => HO1.out.frozenAt j
      clear hc0
      go_wp2
      go_roundw
      case rel =>
        refine ⟨k + 1, by omega, by go_num, by go_grown, ?_⟩
        have := store_own HO1.out (k * 3) 0 [.int .i64 e.line, .int .i64 e.code, .int .i64 e.times]
        rw [row_next (sz := 3) (by rw [flat_len enF_len, List.length_take, HA.out.1]; omega) hlt rfl rfl, ← show enF e = [.int .i64 e.line, .int .i64 e.code, .int .i64 e.times] from rfl, ← flat_snoc HE.out] at this
        exact this
      case measure => simp [intOf]; omega
    · go_wp2
      go_ret
      obtain rfl : k = n := by omega
      rw [List.take_of_length_le (by rw [HA.out.1]; exact Nat.le_refl _), Nat.sub_self, List.replicate_zero, List.flatten_nil, List.append_nil] at hown
      exact ⟨_, _, rfl, hown, hB⟩
set_option maxRecDepth 100000 in
set_option maxHeartbeats 1000000 in
theorem laws_eqErrorEntryS (a b : Option Addr) (n c c' : Nat) (es : List En) (w : World) (ha : IsStructs enF 3 w a n c es) (hb : IsStructs enF 3 w b n c' es) :
    Calls Tryd.prog 14 #[.slice a n c, .slice b n c'] w fun e w' => e = .returned (.bool true) ∧ Below w.heap.size w w' := by
  have HA := hide ha; have HB := hide hb
  have hc := ha.2.1; have hm : c ≤ 9223372036854775807 := ha.2.2.1
  clear ha hb
  go_enter Tryd.func14, Tryd.ntmps14
  go_wp2
  go_loopw [5] (fun i wr => ∃ k : Nat, k ≤ n ∧ i = .int .i64 k ∧ Below w.heap.size w wr) (fun i _ => n - (intOf i).toNat)
  case atStart => exact ⟨0, by omega, rfl, Below.refl _ _⟩
  case round =>
    obtain ⟨k, hk, rfl, hB⟩ := hrel
    by_cases hlt : k < n
    · obtain ⟨e, b1, o1, he, rfl, hlb, hcell⟩ := HA.out.get enF_len (by omega) hlt
      obtain ⟨e', b2, o2, he', rfl, hlb', hcell'⟩ := HB.out.get enF_len (by omega) hlt
      obtain rfl : e' = e := by rw [he] at he'; injection he' with h; exact h.symm
      have e0 : wr.cell? ⟨b1, o1 + k * 3, none⟩ = some (.int .i64 e'.line) := (hB.cell (p := ⟨b1, o1 + (k * 3 + 0), none⟩) hlb).trans (hcell 0 _ rfl)
      have e1 : wr.cell? ⟨b1, o1 + k * 3 + 1, none⟩ = some (.int .i64 e'.code) := (hB.cell (p := ⟨b1, o1 + (k * 3 + 1), none⟩) hlb).trans (hcell 1 _ rfl)
      have e2 : wr.cell? ⟨b1, o1 + k * 3 + 2, none⟩ = some (.int .i64 e'.times) := (hB.cell (p := ⟨b1, o1 + (k * 3 + 2), none⟩) hlb).trans (hcell 2 _ rfl)
      have f0 : wr.cell? ⟨b2, o2 + k * 3, none⟩ = some (.int .i64 e'.line) := (hB.cell (p := ⟨b2, o2 + (k * 3 + 0), none⟩) hlb').trans (hcell' 0 _ rfl)
      have f1 : wr.cell? ⟨b2, o2 + k * 3 + 1, none⟩ = some (.int .i64 e'.code) := (hB.cell (p := ⟨b2, o2 + (k * 3 + 1), none⟩) hlb').trans (hcell' 1 _ rfl)
      have f2 : wr.cell? ⟨b2, o2 + k * 3 + 2, none⟩ = some (.int .i64 e'.times) := (hB.cell (p := ⟨b2, o2 + (k * 3 + 2), none⟩) hlb').trans (hcell' 2 _ rfl)
      have h1 : (0 : Int) ≤ (k : Int) := by omega
      have h2 : (k : Int) < (n : Int) := by omega
      have hs1 := hB.size
      have hl1 : b1 < wr.heap.size := by omega
      have hl2 : b2 < wr.heap.size := by omega
      clear hcell hcell' he he'
      go_wp2_with fail
      go_region_held3 (fun v => v.cell? ⟨b1, o1 + k * 3, none⟩ = some (.int .i64 e'.line) ∧ v.cell? ⟨b1, o1 + k * 3 + 1, none⟩ = some (.int .i64 e'.code) ∧ v.cell? ⟨b1, o1 + k * 3 + 2, none⟩ = some (.int .i64 e'.times) ∧ v.cell? ⟨b2, o2 + k * 3, none⟩ = some (.int .i64 e'.line) ∧ v.cell? ⟨b2, o2 + k * 3 + 1, none⟩ = some (.int .i64 e'.code) ∧ v.cell? ⟨b2, o2 + k * 3 + 2, none⟩ = some (.int .i64 e'.times)) (go_keep)
        (first | (go_at_call 42; refine (laws_eqErrorEntry e' _).mono ?_; rintro e w1 ⟨rfl, h1⟩; (try (have hz0 : wr.heap.size < w1.heap.size := (by have := h1.size; (try simp at this); omega); have hl0 := (fun o => (bcell h1).1 (wr.heap.size) o (by go_size)); have hv0 := (fun o => (bcell h1).2 (wr.heap.size) o (by go_size)))); replace h1 : Below wr.heap.size wr w1 := bthen (by go_grown) h1 (by first | go_size | omega); obtain ⟨hc1, hf1⟩ := bcell h1; have hB2 : Below w.heap.size w w1 := bthen hB h1 (by omega)))
      go_wp2_with fail
      go_roundw
      case rel => exact ⟨k + 1, by omega, by go_num, by first | assumption | exact bdrawn (by assumption) _⟩
      case measure => simp [intOf]; omega
    · go_wp2
      go_ret
      exact ⟨rfl, hB⟩
set_option maxHeartbeats 400000 in
theorem laws_szErrorEntryS (a : Option Addr) (n c : Nat) (l : Int) (w : World) (h0 : 0 ≤ l) (h1 : (n : Int) ≤ l) (h2 : l ≤ 1048576) :
    Calls Tryd.prog 10 #[.slice a n c, .int .i64 l] w fun e w' => e = .returned (.int .i64 (l - n)) ∧ Below w.heap.size w w' := by
  have h3 : 0 ≤ l - (n : Int) := by omega
  go_enter Tryd.func10, Tryd.ntmps10
  go_wp2
  go_ret
  exact ⟨rfl, Below.refl _ _⟩
set_option maxHeartbeats 400000 in
theorem laws_szErrorEntryS_no (a : Option Addr) (n c : Nat) (l : Int) (w : World) (h0 : 0 ≤ l) (h1 : l < (n : Int)) (h2 : l ≤ 1048576) (hm : n ≤ c ∧ c ≤ 9223372036854775807) :
    Calls Tryd.prog 10 #[.slice a n c, .int .i64 l] w fun e w' => e = .returned (.int .i64 (-1)) ∧ Below w.heap.size w w' := by
  have h3 : l - (n : Int) < 0 := by omega
  have h4 := hm.1; have h5 := hm.2
  clear hm
  go_enter Tryd.func10, Tryd.ntmps10
  go_wp2
  go_ret
  exact ⟨rfl, Below.refl _ _⟩
def markEn (k0 : Int) (i : Nat) : En := ⟨k0 + (i : Int) * 3, k0 + (i : Int) * 3 + 1, k0 + (i : Int) * 3 + 1 + 1⟩
def marksEn (k0 : Int) (n : Nat) : List En := (List.range n).map (markEn k0)
theorem marksEn_len (k0 : Int) (n : Nat) : (marksEn k0 n).length = n := by simp [marksEn]
theorem marksEn_at (k0 : Int) (n k : Nat) (h : k < n) : (marksEn k0 n)[k]? = some (markEn k0 k) := by simp [marksEn, List.getElem?_range h]
def MarkedEn (lo hi : Nat) (w : World) (a : Option Addr) (n c : Nat) (k0 : Int) (e : Ending) (w' : World) : Prop :=
  e = .returned (.int .i64 (k0 + (n : Int) * 3)) ∧ Owned lo hi w' 58 3 a n c ((marksEn k0 n).flatMap enF) ∧ Save lo hi w w'
set_option maxRecDepth 100000 in
set_option maxHeartbeats 1000000 in
theorem laws_markErrorEntryS (lo hi : Nat) (a : Option Addr) (n c : Nat) (k0 : Int) (xs : List Value) (w : World) (hk0 : 0 ≤ k0 ∧ k0 ≤ 1000000000) (hs : n ≤ 1048576) (ho : Owned lo hi w 58 3 a n c xs) :
    Calls Tryd.prog 17 #[.slice a n c, .int .i64 k0] w (MarkedEn lo hi w a n c k0) := by
  have hk1 := hk0.1; have hk2 := hk0.2
  clear hk0
  have hxl := hide ho.1.1
  have hc := (Owned.caps ho).1
  have hm : c ≤ 9223372036854775807 := (Owned.caps ho).2
  go_enter Tryd.func17, Tryd.ntmps17
  go_wp2
  go_loopw [1, 5] (fun v i wr => ∃ k : Nat, k ≤ n ∧ i = .int .i64 k ∧ v = .int .i64 (k0 + (k : Int) * 3) ∧ Owned lo hi wr 58 3 a n c (((marksEn k0 n).take k).flatMap enF ++ xs.drop (k * 3)) ∧ Save lo hi w wr) (fun _ i _ => n - (intOf i).toNat)
  case atStart => exact ⟨0, by omega, rfl, by simp, by simpa using ho, Save.refl _ _ _⟩
  case round =>
    clear ho
    obtain ⟨k, hk, rfl, rfl, hO, hS⟩ := hrel
    by_cases hlt : k < n
    · obtain ⟨g, rfl, hg1, hg2, hg3, hcell, hfr⟩ := hO.some (by omega)
      have hc0 : ∀ j, j < 3 → ∃ u, wr.cell? ⟨g, k * 3 + j, none⟩ = some u := fun j hj => ⟨_, (hcell (k * 3 + j) (by omega)).trans (List.getElem?_eq_getElem (by rw [hO.1.1]; omega))⟩
      obtain ⟨u0, c0⟩ := hc0 0 (by omega)
      obtain ⟨u1, c1⟩ := hc0 1 (by omega)
      obtain ⟨u2, c2⟩ := hc0 2 (by omega)
      replace c0 : wr.cell? ⟨g, k * 3, none⟩ = some u0 := c0
      have h1 : (0 : Int) ≤ (k : Int) := by omega
      have h2 : (k : Int) < (n : Int) := by omega
      have HM := hide (marksEn_at k0 n k hlt)
      have HO := hide hO
      clear hO hcell hc0
      go_wp2
      go_roundw
      case rel =>
        obtain ⟨h3, h4⟩ := store_owned HO.out (k * 3) 0 (enF (markEn k0 k))
        refine ⟨k + 1, by omega, by go_num, by simp; omega, ?_, hS.trans ?_⟩
        · rw [row_over (sz := 3) (by rw [flat_len enF_len, List.length_take, marksEn_len]; omega) hlt hxl.out rfl, ← flat_snoc HM.out] at h3
          exact h3
        · exact h4
      case measure => simp [intOf]; omega
    · go_wp2
      go_ret
      obtain rfl : k = n := by omega
      rw [List.take_of_length_le (by simp [marksEn_len]), List.drop_eq_nil_of_le (by rw [hxl.out]; exact Nat.le_refl _), List.append_nil] at hO
      exact ⟨rfl, hO, hS⟩
set_option maxRecDepth 100000 in
set_option maxHeartbeats 1000000 in
theorem laws_heldErrorEntryS (a : Option Addr) (n c : Nat) (k0 : Int) (w : World) (hk0 : 0 ≤ k0 ∧ k0 ≤ 1000000000) (hs : n ≤ 1048576) (hb : IsStructs enF 3 w a n c (marksEn k0 n)) :
    Calls Tryd.prog 18 #[.slice a n c, .int .i64 k0] w fun e w' => e = .returned (.int .i64 (k0 + (n : Int) * 3)) ∧ Below w.heap.size w w' := by
  have hk1 := hk0.1; have hk2 := hk0.2
  clear hk0
  have HA := hide hb
  have hc := hb.2.1; have hm : c ≤ 9223372036854775807 := hb.2.2.1
  clear hb
  go_enter Tryd.func18, Tryd.ntmps18
  go_wp2
  go_loopw [1, 5] (fun v i wr => ∃ k : Nat, k ≤ n ∧ i = .int .i64 k ∧ v = .int .i64 (k0 + (k : Int) * 3) ∧ Below w.heap.size w wr) (fun _ i _ => n - (intOf i).toNat)
  case atStart => exact ⟨0, by omega, rfl, by simp, Below.refl _ _⟩
  case round =>
    obtain ⟨k, hk, rfl, rfl, hB⟩ := hrel
    by_cases hlt : k < n
    · obtain ⟨e, b1, o1, he, rfl, hlb, hcell⟩ := HA.out.get enF_len (by omega) hlt
      rw [marksEn_at k0 n k hlt] at he
      injection he with he
      subst he
      have e0 : wr.cell? ⟨b1, o1 + k * 3, none⟩ = some (.int .i64 (k0 + (k : Int) * 3)) := (hB.cell (p := ⟨b1, o1 + (k * 3 + 0), none⟩) hlb).trans (hcell 0 _ rfl)
      have e1 : wr.cell? ⟨b1, o1 + k * 3 + 1, none⟩ = some (.int .i64 (k0 + (k : Int) * 3 + 1)) := (hB.cell (p := ⟨b1, o1 + (k * 3 + 1), none⟩) hlb).trans (hcell 1 _ rfl)
      have e2 : wr.cell? ⟨b1, o1 + k * 3 + 2, none⟩ = some (.int .i64 (k0 + (k : Int) * 3 + 1 + 1)) := (hB.cell (p := ⟨b1, o1 + (k * 3 + 2), none⟩) hlb).trans (hcell 2 _ rfl)
      have h1 : (0 : Int) ≤ (k : Int) := by omega
      have h2 : (k : Int) < (n : Int) := by omega
      clear hcell
      go_wp2
      go_roundw
      case rel => exact ⟨k + 1, by omega, by go_num, by simp; omega, hB⟩
      case measure => simp [intOf]; omega
    · go_wp2
      go_ret
      obtain rfl : k = n := by omega
      exact ⟨rfl, hB⟩
def entryOk (e : En) : Bool := btw e.line 0 1023 && ((e.code == 1 || e.code == 2) && btw e.times 1 999)
def keyIs (line code : Int) (e : En) : Bool := (e.line == line) && (e.code == code)
/-- The first entry of a line and a code, counted from i on; -1 if there is none. -/
def errFrom (line code : Int) : List En → Int → Int
  | [], _ => -1
  | e :: es, i => if keyIs line code e = true then i else errFrom line code es (i + 1)
def errAt (es : List En) (line code : Int) : Int := errFrom line code es 0
theorem errFrom_drop {line code : Int} : ∀ (es : List En) (k : Nat) (i : Int), ((es.take k).all fun e => !keyIs line code e) = true → k ≤ es.length → errFrom line code es i = errFrom line code (es.drop k) (i + k) := by
  intro es
  induction es with
  | nil => intro k i _ hk; obtain rfl : k = 0 := by simpa using hk
           simp
  | cons e es ih =>
    intro k i h hk
    cases k with
    | zero => simp
    | succ k =>
      simp only [List.take_succ_cons, List.all_cons, Bool.and_eq_true, Bool.not_eq_true'] at h
      show (if _ then _ else _) = _
      rw [if_neg (by simp [h.1]), ih k (i + 1) h.2 (by simpa using hk), List.drop_succ_cons, show i + 1 + (k : Int) = i + ((k + 1 : Nat) : Int) by omega]
theorem errAt_hit {es : List En} {line code : Int} {k : Nat} {e : En} (h : ((es.take k).all fun e => !keyIs line code e) = true) (he : es[k]? = some e) (hp : keyIs line code e = true) : errAt es line code = k := by
  obtain ⟨hk, rfl⟩ := List.getElem?_eq_some_iff.1 he
  unfold errAt
  rw [errFrom_drop es k 0 h (by omega), List.drop_eq_getElem_cons hk]
  show (if _ then _ else _) = _
  rw [if_pos hp]; omega
theorem errAt_none {es : List En} {line code : Int} (h : (es.all fun e => !keyIs line code e) = true) : errAt es line code = -1 := by
  unfold errAt
  rw [errFrom_drop es es.length 0 (by rw [List.take_length]; exact h) (Nat.le_refl _), List.drop_length]; rfl
theorem errFrom_back {line code : Int} : ∀ (es : List En) (k : Nat) (i : Int), errFrom line code es i = i + k → ((es.take k).all fun e => !keyIs line code e) = true := by
  intro es
  induction es with
  | nil => intro k i _; simp
  | cons e es ih =>
    intro k i h
    cases k with
    | zero => simp
    | succ k =>
      by_cases hp : keyIs line code e = true
      · have : errFrom line code (e :: es) i = i := if_pos hp
        rw [this] at h; omega
      · have h2 : errFrom line code (e :: es) i = errFrom line code es (i + 1) := if_neg hp
        rw [h2] at h
        have := ih k (i + 1) (by rw [h]; omega)
        simp only [List.take_succ_cons, List.all_cons, Bool.and_eq_true]
        exact ⟨by simpa using hp, this⟩
theorem errAt_ne {es : List En} {line code : Int} {k : Nat} (h : ((es.take k).all fun e => !keyIs line code e) = false) : (errAt es line code != (k : Int)) = true := by
  rw [bne_iff_ne]
  intro e
  rw [errFrom_back es k 0 (by unfold errAt at e; rw [e]; omega)] at h
  cases h
theorem keyIs_self (e : En) : keyIs e.line e.code e = true := by simp [keyIs]
/-- The first k entries are well formed, and no two of them are of one line and code. -/
def errTo (es : List En) (k : Nat) : Bool := (List.range k).all fun j => match es[j]? with | some e => entryOk e && ((es.take j).all fun f => !keyIs e.line e.code f) | none => true
def errorsOkB (es : List En) : Bool := decide (es.length ≤ 6) && errTo es es.length
theorem errTo_zero (es : List En) : errTo es 0 = true := rfl
theorem errTo_next {es : List En} {k : Nat} {e : En} (h : errTo es k = true) (he : es[k]? = some e) (h1 : entryOk e = true) (h2 : ((es.take k).all fun f => !keyIs e.line e.code f) = true) : errTo es (k + 1) = true := by
  unfold errTo at h ⊢
  rw [List.range_succ, List.all_append, h]
  simp only [List.all_cons, List.all_nil, Bool.and_true, Bool.true_and]
  rw [he]
  simp only
  rw [h1, h2]; rfl
theorem errTo_no {es : List En} {k : Nat} {e : En} (he : es[k]? = some e) (h : entryOk e = false ∨ ((es.take k).all fun f => !keyIs e.line e.code f) = false) : errorsOkB es = false := by
  have hk := (List.getElem?_eq_some_iff.1 he).1
  unfold errorsOkB errTo
  rw [Bool.and_eq_false_iff]
  right
  rw [List.all_eq_false]
  refine ⟨k, List.mem_range.2 hk, ?_⟩
  rw [he]
  simp only
  rcases h with h | h <;> rw [h] <;> simp
theorem all_false_at {es : List En} {p : En → Bool} {k j : Nat} {f : En} (hf : es[j]? = some f) (hj : j < k) (hp : p f = true) : ((es.take k).all fun f => !p f) = false := by
  rw [List.all_eq_false]
  exact ⟨f, List.mem_of_getElem? (i := j) (by rw [List.getElem?_take, if_pos hj]; exact hf), by simp [hp]⟩
theorem allp_next {es : List En} {p : En → Bool} {k : Nat} {f : En} (h : ((es.take k).all fun f => !p f) = true) (hf : es[k]? = some f) (hp : p f = false) : ((es.take (k + 1)).all fun f => !p f) = true := by
  rw [take_snoc hf, List.all_append, h]; simp [hp]

set_option maxHeartbeats 400000 in
theorem spec_l26Entry (e : En) (w : World) :
    Calls Tryd.prog 56 #[.agg #[.int .i64 e.line, .int .i64 e.code, .int .i64 e.times]] w fun r w' => r = .returned (.bool (entryOk e)) ∧ Below w.heap.size w w' := by
  go_enter Tryd.func56, Tryd.ntmps56
  go_wp2_with (first | (go_at_call 36; refine (spec_l01In _ _ _ _).mono ?_; rintro e w1 ⟨rfl, rfl⟩))
  all_goals go_ret
  all_goals exact ⟨ret_bool (by first | (simp only [entryOk, *, Bool.and_true, Bool.true_and, Bool.and_false, Bool.false_and, Bool.or_true, Bool.true_or, Bool.or_false, Bool.false_or]; done) | (simp [entryOk, *]; done)), by go_grown⟩

set_option maxHeartbeats 800000 in
theorem spec_l26At (a : Option Addr) (n c : Nat) (es : List En) (line code : Int) (w : World) (ha : IsStructs enF 3 w a n c es) (hs : n ≤ 1048576) :
    Calls Tryd.prog 57 #[.slice a n c, .int .i64 line, .int .i64 code] w fun r w' => r = .returned (.int .i64 (errAt es line code)) ∧ Below w.heap.size w w' := by
  have HA := hide ha
  have hc := ha.2.1
  clear ha
  go_enter Tryd.func57, Tryd.ntmps57
  go_wp2
  go_loop [7] (fun i => ∃ k : Nat, k ≤ n ∧ i = .int .i64 k ∧ Hid (((es.take k).all fun e => !keyIs line code e) = true)) (fun i => n - (intOf i).toNat)
  case atStart => exact ⟨0, by omega, rfl, hide (by simp)⟩
  case round =>
    obtain ⟨k, hk, rfl, HT⟩ := hrel
    by_cases hlt : k < n
    · obtain ⟨e, b1, o1, he, rfl, hlb, hcell⟩ := HA.out.get enF_len (by omega) hlt
      have e0 : w.cell? ⟨b1, o1 + k * 3, none⟩ = some (.int .i64 e.line) := hcell 0 _ rfl
      have e1 : w.cell? ⟨b1, o1 + k * 3 + 1, none⟩ = some (.int .i64 e.code) := hcell 1 _ rfl
      have HE := hide he
      have h1 : (0 : Int) ≤ (k : Int) := by omega
      have h2 : (k : Int) < (n : Int) := by omega
      clear hcell he
      cases q1 : (e.line == line)
      · go_wp2
        go_round
        case rel => exact ⟨k + 1, by omega, by go_num, hide (allp_next HT.out HE.out (by unfold keyIs; rw [q1]; rfl))⟩
        case measure => simp [intOf]; omega
      · cases q2 : (e.code == code)
        · go_wp2
          go_round
          case rel => exact ⟨k + 1, by omega, by go_num, hide (allp_next HT.out HE.out (by unfold keyIs; rw [q2, Bool.and_false]))⟩
          case measure => simp [intOf]; omega
        · go_wp2
          go_ret
          exact ⟨ret_int (by rw [errAt_hit HT.out HE.out (by unfold keyIs; rw [q1, q2]; rfl)]), Below.refl _ _⟩
    · go_wp2
      go_ret
      exact ⟨ret_int (by rw [errAt_none (by have := HT.out; rwa [List.take_of_length_le (by rw [HA.out.1]; omega)] at this)]), Below.refl _ _⟩

end Go.Proofs.YtheifhjnbpbkhaaDoor
