/- Requests: the laws' copy of a list, its comparison and its marks. -/
import Derived.Test.YtahfbhfmhccgoaaSts
import Derived.Test.YtahfbhfmhccgoaaBetween
import Derived.Deep.RegionHeld3
set_option linter.unusedSimpArgs false
set_option linter.unusedVariables false
namespace Go.Proofs.Ytahfbhfmhccgoaa
open Go.RowKit Go.ChangeShapes Go.WideShapes Go.ChangeAt Go.Joins Go.Deep
open Go.ChangeMaps (open_string shut_string)
structure Rq where
  id : Int
  tenant : Int
  line : Int
  write : Bool
  data : Int
  tm : Int
def rqF (e : Rq) : List Value := [.int .i64 e.id, .int .i64 e.tenant, .int .i64 e.line, .bool e.write, .int .i64 e.data, .int .i64 e.tm]
theorem rqF_len (e : Rq) : (rqF e).length = 6 := rfl
theorem info_Rq : (Try.prog.info? 41).map (fun i => (i.zero, i.size, i.bytes)) = some (some (.agg #[.int .i64 0, .int .i64 0, .int .i64 0, .bool false, .int .i64 0, .int .i64 0]), 6, 48) := by kernel_rfl
theorem isRequests_of {H : Type} {enc : TypeId × Value → H} {w : World} {base : Nat} {held : Bool} {fuel : Nat} {cs : List Value} {x : DataW H × List MemPlace}
    (h : DataW.trod enc Try.prog w base (fun _ => true) held fuel 63 cs = some x) : ∃ a n c es, cs = [.slice a n c] ∧ IsStructs rqF 6 w a n c es := by
  rcases open_slice_fields Try.underlying63 Try.underlying129 (by kernel_rfl) (by kernel_rfl) h with h0 | ⟨a, len, cap, hcs, hl, hm, hi⟩
  · exact ⟨none, 0, 0, [], h0, rfl, Nat.le_refl _, Nat.zero_le _, RowIn.nil _ _⟩
  · obtain ⟨es, hlen, hes⟩ := exists_list (P := fun i (e : Rq) => ∀ j v, (rqF e)[j]? = some v → w.cell? (a.add (i * 6 + j)) = some v) len (fun i hi' => by
      obtain ⟨n, hf⟩ := hi i hi'
      obtain ⟨v0, y0, c0, t0⟩ := hf 0 _ rfl
      obtain ⟨v1, y1, c1, t1⟩ := hf 1 _ rfl
      obtain ⟨v2, y2, c2, t2⟩ := hf 2 _ rfl
      obtain ⟨v3, y3, c3, t3⟩ := hf 3 _ rfl
      obtain ⟨v4, y4, c4, t4⟩ := hf 4 _ rfl
      obtain ⟨v5, y5, c5, t5⟩ := hf 5 _ rfl
      obtain ⟨z0, e0, _, _⟩ := DataW.trod_int Try.underlying3 t0
      obtain ⟨z1, e1, _, _⟩ := DataW.trod_int Try.underlying3 t1
      obtain ⟨z2, e2, _, _⟩ := DataW.trod_int Try.underlying3 t2
      obtain ⟨z3, e3, _⟩ := DataW.trod_bool Try.underlying4 t3
      obtain ⟨z4, e4, _, _⟩ := DataW.trod_int Try.underlying3 t4
      obtain ⟨z5, e5, _, _⟩ := DataW.trod_int Try.underlying3 t5
      simp only [List.cons.injEq, and_true] at e0 e1 e2 e3 e4 e5
      subst e0 e1 e2 e3 e4 e5
      refine ⟨⟨z0, z1, z2, z3, z4, z5⟩, fun j v hv => ?_⟩
      match j, hv with
      | 0, hv => simp [rqF] at hv; subst hv; exact c0
      | 1, hv => simp [rqF] at hv; subst hv; exact c1
      | 2, hv => simp [rqF] at hv; subst hv; exact c2
      | 3, hv => simp [rqF] at hv; subst hv; exact c3
      | 4, hv => simp [rqF] at hv; subst hv; exact c4
      | 5, hv => simp [rqF] at hv; subst hv; exact c5)
    refine ⟨some a, len, cap, es, hcs, hlen, hl, hm, rowIn_of fun i v hv => ?_⟩
    obtain ⟨k, j, e, rfl, he, hj, _⟩ := flat_of rqF_len es i v hv
    exact hes k e he j v hj
set_option maxHeartbeats 400000 in
theorem laws_toRequest (e : Rq) (w : World) :
    Calls Try.prog 89 #[.agg #[.int .i64 e.id, .int .i64 e.tenant, .int .i64 e.line, .bool e.write, .int .i64 e.data, .int .i64 e.tm]] w fun r w' => r = .returned (.agg #[.int .i64 e.id, .int .i64 e.tenant, .int .i64 e.line, .bool e.write, .int .i64 e.data, .int .i64 e.tm]) ∧ Below w.heap.size w w' := by
  go_enter Try.func89, Try.ntmps89
  go_wp2
  go_returns
  exact ⟨rfl, by go_grown⟩
set_option maxHeartbeats 400000 in
theorem laws_eqRequest (e : Rq) (w : World) :
    Calls Try.prog 92 #[.agg #[.int .i64 e.id, .int .i64 e.tenant, .int .i64 e.line, .bool e.write, .int .i64 e.data, .int .i64 e.tm], .agg #[.int .i64 e.id, .int .i64 e.tenant, .int .i64 e.line, .bool e.write, .int .i64 e.data, .int .i64 e.tm]] w fun r w' => r = .returned (.bool true) ∧ Below w.heap.size w w' := by
  go_enter Try.func92, Try.ntmps92
  go_wp2
  go_ret
  exact ⟨rfl, by go_grown⟩
set_option maxRecDepth 100000 in
set_option maxHeartbeats 1000000 in
theorem laws_toRequestS (a : Option Addr) (n c : Nat) (es : List Rq) (w : World) (ha : IsStructs rqF 6 w a n c es) (hs : n ≤ 1048576) :
    Calls Try.prog 40 #[.slice a n c] w (Fresh w 41 6 n (es.flatMap rqF)) := by
  obtain ⟨i0, hi, hz0, hz1, hz2⟩ := info_parts info_Rq
  have HA := hide ha
  have hc := ha.2.1
  clear ha
  go_enter Try.func40, Try.ntmps40
  go_wp2_with (at_make; refine wpList_make_full _ rfl _ _ 36 rfl w.heap.size 41 i0 _ 6 Try.underlying36 hi hz0 hz1 _ _ _ _ n rfl rfl rfl rfl (by rw [hz2]; omega) (by unfold maxLen; omega) (Nat.le_refl _) ?_; intro w0 hown hg; have hb0 : Below w.heap.size w w0 := (Below.refl _ _).grown hg (Nat.le_refl _) (fun k h => by cases h))
  go_loopw [4] (fun i wr => ∃ k : Nat, k ≤ n ∧ i = .int .i64 k ∧ Below w.heap.size w wr ∧ wr.ownsRow w.heap.size 41 6 (.slice (some ⟨w.heap.size, 0, none⟩) n n) n ((es.take k).flatMap rqF ++ (List.replicate (n - k) [.int .i64 0, .int .i64 0, .int .i64 0, .bool false, .int .i64 0, .int .i64 0]).flatten)) (fun i _ => n - (intOf i).toNat)
  case atStart =>
    refine ⟨0, by omega, rfl, hb0, ?_⟩
    have := hown
    rw [made_row (sz := 6) _ rfl, show (Value.agg #[.int .i64 0, .int .i64 0, .int .i64 0, .bool false, .int .i64 0, .int .i64 0]).cells.toList = [.int .i64 0, .int .i64 0, .int .i64 0, .bool false, .int .i64 0, .int .i64 0] from rfl] at this
    simpa using this
  case round =>
    clear hown hg hb0
    obtain ⟨k, hk, rfl, hB, hown⟩ := hrel
    by_cases hlt : k < n
    · obtain ⟨e, b1, o1, he, rfl, hlb, hcell⟩ := HA.out.get rqF_len (by omega) hlt
      have e0 : wr.cell? ⟨b1, o1 + k * 6, none⟩ = some (.int .i64 e.id) := (hB.cell (p := ⟨b1, o1 + (k * 6 + 0), none⟩) hlb).trans (hcell 0 _ rfl)
      have e1 : wr.cell? ⟨b1, o1 + k * 6 + 1, none⟩ = some (.int .i64 e.tenant) := (hB.cell (p := ⟨b1, o1 + (k * 6 + 1), none⟩) hlb).trans (hcell 1 _ rfl)
      have e2 : wr.cell? ⟨b1, o1 + k * 6 + 2, none⟩ = some (.int .i64 e.line) := (hB.cell (p := ⟨b1, o1 + (k * 6 + 2), none⟩) hlb).trans (hcell 2 _ rfl)
      have e3 : wr.cell? ⟨b1, o1 + k * 6 + 3, none⟩ = some (.bool e.write) := (hB.cell (p := ⟨b1, o1 + (k * 6 + 3), none⟩) hlb).trans (hcell 3 _ rfl)
      have e4 : wr.cell? ⟨b1, o1 + k * 6 + 4, none⟩ = some (.int .i64 e.data) := (hB.cell (p := ⟨b1, o1 + (k * 6 + 4), none⟩) hlb).trans (hcell 4 _ rfl)
      have e5 : wr.cell? ⟨b1, o1 + k * 6 + 5, none⟩ = some (.int .i64 e.tm) := (hB.cell (p := ⟨b1, o1 + (k * 6 + 5), none⟩) hlb).trans (hcell 5 _ rfl)
      have HE := hide he
      have h1 : (0 : Int) ≤ (k : Int) := by omega
      have h2 : (k : Int) < (n : Int) := by omega
      have hsz := (hown.lt w.heap.size rfl).2
      have HO := hide hown
      clear hcell he hown
      go_wp2_with fail
      refine (laws_toRequest e _).mono ?_
      rintro r w1 ⟨rfl, h1'⟩
      have HO1 := hide (own_below HO.out h1' (fun j hj => by injection hj with hj; rw [← hj]; exact hsz))
      have hB1 : Below w.heap.size w w1 := bthen hB h1' (by omega)
      have hc0 : ∀ j, j < 6 → ∃ u, w1.cell? ⟨w.heap.size, k * 6 + j, none⟩ = some u := fun j hj => ⟨_, (HO1.out.cellAt (k * 6 + j) (by omega)).trans (List.getElem?_eq_getElem (by rw [HO1.out.1]; omega))⟩
      obtain ⟨u0, c0⟩ := hc0 0 (by omega)
      obtain ⟨u1, c1⟩ := hc0 1 (by omega)
      obtain ⟨u2, c2⟩ := hc0 2 (by omega)
      obtain ⟨u3, c3⟩ := hc0 3 (by omega)
      obtain ⟨u4, c4⟩ := hc0 4 (by omega)
      obtain ⟨u5, c5⟩ := hc0 5 (by omega)
      replace c0 : w1.cell? ⟨w.heap.size, k * 6, none⟩ = some u0 := c0
      have fr := fun j => HO1.out.frozenAt j
      clear hc0
      go_wp2
      go_roundw
      case rel =>
        refine ⟨k + 1, by omega, by go_num, by go_grown, ?_⟩
        have := store_own HO1.out (k * 6) 0 [.int .i64 e.id, .int .i64 e.tenant, .int .i64 e.line, .bool e.write, .int .i64 e.data, .int .i64 e.tm]
        rw [row_next (sz := 6) (by rw [flat_len rqF_len, List.length_take, HA.out.1]; omega) hlt rfl rfl, ← show rqF e = [.int .i64 e.id, .int .i64 e.tenant, .int .i64 e.line, .bool e.write, .int .i64 e.data, .int .i64 e.tm] from rfl, ← flat_snoc HE.out] at this
        exact this
      case measure => simp [intOf]; omega
    · go_wp2
      go_ret
      obtain rfl : k = n := by omega
      rw [List.take_of_length_le (by rw [HA.out.1]; exact Nat.le_refl _), Nat.sub_self, List.replicate_zero, List.flatten_nil, List.append_nil] at hown
      exact ⟨_, _, rfl, hown, hB⟩
set_option maxRecDepth 100000 in
set_option maxHeartbeats 1000000 in
theorem laws_eqRequestS (a b : Option Addr) (n c c' : Nat) (es : List Rq) (w : World) (ha : IsStructs rqF 6 w a n c es) (hb : IsStructs rqF 6 w b n c' es) :
    Calls Try.prog 43 #[.slice a n c, .slice b n c'] w fun e w' => e = .returned (.bool true) ∧ Below w.heap.size w w' := by
  have HA := hide ha; have HB := hide hb
  have hc := ha.2.1; have hm : c ≤ 9223372036854775807 := ha.2.2.1
  clear ha hb
  go_enter Try.func43, Try.ntmps43
  go_wp2
  go_loopw [5] (fun i wr => ∃ k : Nat, k ≤ n ∧ i = .int .i64 k ∧ Below w.heap.size w wr) (fun i _ => n - (intOf i).toNat)
  case atStart => exact ⟨0, by omega, rfl, Below.refl _ _⟩
  case round =>
    obtain ⟨k, hk, rfl, hB⟩ := hrel
    by_cases hlt : k < n
    · obtain ⟨e, b1, o1, he, rfl, hlb, hcell⟩ := HA.out.get rqF_len (by omega) hlt
      obtain ⟨e', b2, o2, he', rfl, hlb', hcell'⟩ := HB.out.get rqF_len (by omega) hlt
      obtain rfl : e' = e := by rw [he] at he'; injection he' with h; exact h.symm
      have e0 : wr.cell? ⟨b1, o1 + k * 6, none⟩ = some (.int .i64 e'.id) := (hB.cell (p := ⟨b1, o1 + (k * 6 + 0), none⟩) hlb).trans (hcell 0 _ rfl)
      have e1 : wr.cell? ⟨b1, o1 + k * 6 + 1, none⟩ = some (.int .i64 e'.tenant) := (hB.cell (p := ⟨b1, o1 + (k * 6 + 1), none⟩) hlb).trans (hcell 1 _ rfl)
      have e2 : wr.cell? ⟨b1, o1 + k * 6 + 2, none⟩ = some (.int .i64 e'.line) := (hB.cell (p := ⟨b1, o1 + (k * 6 + 2), none⟩) hlb).trans (hcell 2 _ rfl)
      have e3 : wr.cell? ⟨b1, o1 + k * 6 + 3, none⟩ = some (.bool e'.write) := (hB.cell (p := ⟨b1, o1 + (k * 6 + 3), none⟩) hlb).trans (hcell 3 _ rfl)
      have e4 : wr.cell? ⟨b1, o1 + k * 6 + 4, none⟩ = some (.int .i64 e'.data) := (hB.cell (p := ⟨b1, o1 + (k * 6 + 4), none⟩) hlb).trans (hcell 4 _ rfl)
      have e5 : wr.cell? ⟨b1, o1 + k * 6 + 5, none⟩ = some (.int .i64 e'.tm) := (hB.cell (p := ⟨b1, o1 + (k * 6 + 5), none⟩) hlb).trans (hcell 5 _ rfl)
      have f0 : wr.cell? ⟨b2, o2 + k * 6, none⟩ = some (.int .i64 e'.id) := (hB.cell (p := ⟨b2, o2 + (k * 6 + 0), none⟩) hlb').trans (hcell' 0 _ rfl)
      have f1 : wr.cell? ⟨b2, o2 + k * 6 + 1, none⟩ = some (.int .i64 e'.tenant) := (hB.cell (p := ⟨b2, o2 + (k * 6 + 1), none⟩) hlb').trans (hcell' 1 _ rfl)
      have f2 : wr.cell? ⟨b2, o2 + k * 6 + 2, none⟩ = some (.int .i64 e'.line) := (hB.cell (p := ⟨b2, o2 + (k * 6 + 2), none⟩) hlb').trans (hcell' 2 _ rfl)
      have f3 : wr.cell? ⟨b2, o2 + k * 6 + 3, none⟩ = some (.bool e'.write) := (hB.cell (p := ⟨b2, o2 + (k * 6 + 3), none⟩) hlb').trans (hcell' 3 _ rfl)
      have f4 : wr.cell? ⟨b2, o2 + k * 6 + 4, none⟩ = some (.int .i64 e'.data) := (hB.cell (p := ⟨b2, o2 + (k * 6 + 4), none⟩) hlb').trans (hcell' 4 _ rfl)
      have f5 : wr.cell? ⟨b2, o2 + k * 6 + 5, none⟩ = some (.int .i64 e'.tm) := (hB.cell (p := ⟨b2, o2 + (k * 6 + 5), none⟩) hlb').trans (hcell' 5 _ rfl)
      have h1 : (0 : Int) ≤ (k : Int) := by omega
      have h2 : (k : Int) < (n : Int) := by omega
      have hs1 := hB.size
      have hl1 : b1 < wr.heap.size := by omega
      have hl2 : b2 < wr.heap.size := by omega
      clear hcell hcell' he he'
      go_wp2_with fail
      go_region_held3 (fun v => v.cell? ⟨b1, o1 + k * 6, none⟩ = some (.int .i64 e'.id) ∧ v.cell? ⟨b1, o1 + k * 6 + 1, none⟩ = some (.int .i64 e'.tenant) ∧ v.cell? ⟨b1, o1 + k * 6 + 2, none⟩ = some (.int .i64 e'.line) ∧ v.cell? ⟨b1, o1 + k * 6 + 3, none⟩ = some (.bool e'.write) ∧ v.cell? ⟨b1, o1 + k * 6 + 4, none⟩ = some (.int .i64 e'.data) ∧ v.cell? ⟨b1, o1 + k * 6 + 5, none⟩ = some (.int .i64 e'.tm) ∧ v.cell? ⟨b2, o2 + k * 6, none⟩ = some (.int .i64 e'.id) ∧ v.cell? ⟨b2, o2 + k * 6 + 1, none⟩ = some (.int .i64 e'.tenant) ∧ v.cell? ⟨b2, o2 + k * 6 + 2, none⟩ = some (.int .i64 e'.line) ∧ v.cell? ⟨b2, o2 + k * 6 + 3, none⟩ = some (.bool e'.write) ∧ v.cell? ⟨b2, o2 + k * 6 + 4, none⟩ = some (.int .i64 e'.data) ∧ v.cell? ⟨b2, o2 + k * 6 + 5, none⟩ = some (.int .i64 e'.tm)) (go_keep)
        (first | (go_at_call 92; refine (laws_eqRequest e' _).mono ?_; rintro e w1 ⟨rfl, h1⟩; (try (have hz0 : wr.heap.size < w1.heap.size := (by have := h1.size; (try simp at this); omega); have hl0 := (fun o => (bcell h1).1 (wr.heap.size) o (by go_size)); have hv0 := (fun o => (bcell h1).2 (wr.heap.size) o (by go_size)))); replace h1 : Below wr.heap.size wr w1 := bthen (by go_grown) h1 (by first | go_size | omega); obtain ⟨hc1, hf1⟩ := bcell h1; have hB2 : Below w.heap.size w w1 := bthen hB h1 (by omega)))
      go_wp2_with fail
      go_roundw
      case rel => exact ⟨k + 1, by omega, by go_num, by first | assumption | exact bdrawn (by assumption) _⟩
      case measure => simp [intOf]; omega
    · go_wp2
      go_ret
      exact ⟨rfl, hB⟩
set_option maxHeartbeats 400000 in
theorem laws_szRequestS (a : Option Addr) (n c : Nat) (l : Int) (w : World) (h0 : 0 ≤ l) (h1 : (n : Int) ≤ l) (h2 : l ≤ 1048576) :
    Calls Try.prog 38 #[.slice a n c, .int .i64 l] w fun e w' => e = .returned (.int .i64 (l - n)) ∧ Below w.heap.size w w' := by
  have h3 : 0 ≤ l - (n : Int) := by omega
  go_enter Try.func38, Try.ntmps38
  go_wp2
  go_ret
  exact ⟨rfl, Below.refl _ _⟩
set_option maxHeartbeats 400000 in
theorem laws_szRequestS_no (a : Option Addr) (n c : Nat) (l : Int) (w : World) (h0 : 0 ≤ l) (h1 : l < (n : Int)) (h2 : l ≤ 1048576) (hm : n ≤ c ∧ c ≤ 9223372036854775807) :
    Calls Try.prog 38 #[.slice a n c, .int .i64 l] w fun e w' => e = .returned (.int .i64 (-1)) ∧ Below w.heap.size w w' := by
  have h3 : l - (n : Int) < 0 := by omega
  have h4 := hm.1; have h5 := hm.2
  clear hm
  go_enter Try.func38, Try.ntmps38
  go_wp2
  go_ret
  exact ⟨rfl, Below.refl _ _⟩
def markRq (k0 : Int) (i : Nat) : Rq := ⟨k0 + (i : Int) * 6, k0 + (i : Int) * 6 + 1, k0 + (i : Int) * 6 + 1 + 1, (k0 + (i : Int) * 6 + 1 + 1 + 1) % 3 == 0, k0 + (i : Int) * 6 + 1 + 1 + 1 + 1, k0 + (i : Int) * 6 + 1 + 1 + 1 + 1 + 1⟩
def marksRq (k0 : Int) (n : Nat) : List Rq := (List.range n).map (markRq k0)
theorem marksRq_len (k0 : Int) (n : Nat) : (marksRq k0 n).length = n := by simp [marksRq]
theorem marksRq_at (k0 : Int) (n k : Nat) (h : k < n) : (marksRq k0 n)[k]? = some (markRq k0 k) := by simp [marksRq, List.getElem?_range h]
def MarkedRq (lo hi : Nat) (w : World) (a : Option Addr) (n c : Nat) (k0 : Int) (e : Ending) (w' : World) : Prop :=
  e = .returned (.int .i64 (k0 + (n : Int) * 6)) ∧ Owned lo hi w' 41 6 a n c ((marksRq k0 n).flatMap rqF) ∧ Save lo hi w w'
set_option maxRecDepth 100000 in
set_option maxHeartbeats 1000000 in
theorem laws_markRequestS (lo hi : Nat) (a : Option Addr) (n c : Nat) (k0 : Int) (xs : List Value) (w : World) (hk0 : 0 ≤ k0 ∧ k0 ≤ 1000000000) (hs : n ≤ 1048576) (ho : Owned lo hi w 41 6 a n c xs) :
    Calls Try.prog 45 #[.slice a n c, .int .i64 k0] w (MarkedRq lo hi w a n c k0) := by
  have hk1 := hk0.1; have hk2 := hk0.2
  clear hk0
  have hxl := hide ho.1.1
  have hc := (Owned.caps ho).1
  have hm : c ≤ 9223372036854775807 := (Owned.caps ho).2
  go_enter Try.func45, Try.ntmps45
  go_wp2
  go_loopw [1, 5] (fun v i wr => ∃ k : Nat, k ≤ n ∧ i = .int .i64 k ∧ v = .int .i64 (k0 + (k : Int) * 6) ∧ Owned lo hi wr 41 6 a n c (((marksRq k0 n).take k).flatMap rqF ++ xs.drop (k * 6)) ∧ Save lo hi w wr) (fun _ i _ => n - (intOf i).toNat)
  case atStart => exact ⟨0, by omega, rfl, by simp, by simpa using ho, Save.refl _ _ _⟩
  case round =>
    clear ho
    obtain ⟨k, hk, rfl, rfl, hO, hS⟩ := hrel
    by_cases hlt : k < n
    · obtain ⟨g, rfl, hg1, hg2, hg3, hcell, hfr⟩ := hO.some (by omega)
      have hc0 : ∀ j, j < 6 → ∃ u, wr.cell? ⟨g, k * 6 + j, none⟩ = some u := fun j hj => ⟨_, (hcell (k * 6 + j) (by omega)).trans (List.getElem?_eq_getElem (by rw [hO.1.1]; omega))⟩
      obtain ⟨u0, c0⟩ := hc0 0 (by omega)
      obtain ⟨u1, c1⟩ := hc0 1 (by omega)
      obtain ⟨u2, c2⟩ := hc0 2 (by omega)
      obtain ⟨u3, c3⟩ := hc0 3 (by omega)
      obtain ⟨u4, c4⟩ := hc0 4 (by omega)
      obtain ⟨u5, c5⟩ := hc0 5 (by omega)
      replace c0 : wr.cell? ⟨g, k * 6, none⟩ = some u0 := c0
      have h1 : (0 : Int) ≤ (k : Int) := by omega
      have h2 : (k : Int) < (n : Int) := by omega
      have HM := hide (marksRq_at k0 n k hlt)
      have HO := hide hO
      clear hO hcell hc0
      go_wp2
      go_roundw
      case rel =>
        obtain ⟨h3, h4⟩ := store_owned HO.out (k * 6) 0 (rqF (markRq k0 k))
        refine ⟨k + 1, by omega, by go_num, by simp; omega, ?_, hS.trans ?_⟩
        · rw [row_over (sz := 6) (by rw [flat_len rqF_len, List.length_take, marksRq_len]; omega) hlt hxl.out rfl, ← flat_snoc HM.out] at h3
          exact h3
        · exact h4
      case measure => simp [intOf]; omega
    · go_wp2
      go_ret
      obtain rfl : k = n := by omega
      rw [List.take_of_length_le (by simp [marksRq_len]), List.drop_eq_nil_of_le (by rw [hxl.out]; exact Nat.le_refl _), List.append_nil] at hO
      exact ⟨rfl, hO, hS⟩
end Go.Proofs.Ytahfbhfmhccgoaa
