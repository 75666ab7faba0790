/- The laws' comparison and marks of events; its copies of a geometry and of a mapping. -/
import Derived.Test.YtahfbhfmhccgoaaTrc5
set_option linter.unusedSimpArgs false
set_option linter.unusedVariables false
namespace Go.Proofs.Ytahfbhfmhccgoaa
open Go.RowKit Go.ChangeShapes Go.WideShapes Go.ChangeAt Go.Joins Go.Deep
open Go.ChangeMaps (open_string shut_string)
theorem laws_eqCommand (k b r c : Int) (w : World) :
    Calls Try.prog 135 #[.agg #[.int .i64 k, .int .i64 b, .int .i64 r, .int .i64 c], .agg #[.int .i64 k, .int .i64 b, .int .i64 r, .int .i64 c]] w fun e w' => e = .returned (.bool true) ∧ Below w.heap.size w w' := by
  go_enter Try.func135, Try.ntmps135
  go_wp2
  go_ret
  exact ⟨rfl, by go_grown⟩
set_option maxHeartbeats 400000 in
theorem laws_eqEvent (e : Ev) (w : World) :
    Calls Try.prog 109 #[.agg #[.int .i64 e.tm, .int .i64 e.kind, .int .i64 e.bank, .int .i64 e.row, .int .i64 e.col], .agg #[.int .i64 e.tm, .int .i64 e.kind, .int .i64 e.bank, .int .i64 e.row, .int .i64 e.col]] w fun r w' => r = .returned (.bool true) ∧ Below w.heap.size w w' := by
  go_enter Try.func109, Try.ntmps109
  go_wp2_with fail
  refine (laws_eqCommand e.kind e.bank e.row e.col _).mono ?_
  rintro r w1 ⟨rfl, h1⟩
  go_wp2_with fail
  go_ret
  exact ⟨rfl, bthen (by go_grown) h1 (by simp only [World.size_alloc]; omega)⟩
set_option maxRecDepth 100000 in
set_option maxHeartbeats 1000000 in
theorem laws_eqEventS (a b : Option Addr) (n c c' : Nat) (es : List Ev) (w : World) (ha : IsStructs evF 5 w a n c es) (hb : IsStructs evF 5 w b n c' es) :
    Calls Try.prog 56 #[.slice a n c, .slice b n c'] w fun e w' => e = .returned (.bool true) ∧ Below w.heap.size w w' := by
  have HA := hide ha; have HB := hide hb
  have hc := ha.2.1; have hm : c ≤ 9223372036854775807 := ha.2.2.1
  clear ha hb
  go_enter Try.func56, Try.ntmps56
  go_wp2
  go_loopw [5] (fun i wr => ∃ k : Nat, k ≤ n ∧ i = .int .i64 k ∧ Below w.heap.size w wr) (fun i _ => n - (intOf i).toNat)
  case atStart => exact ⟨0, by omega, rfl, Below.refl _ _⟩
  case round =>
    obtain ⟨k, hk, rfl, hB⟩ := hrel
    by_cases hlt : k < n
    · obtain ⟨e, b1, o1, he, rfl, hlb, hcell⟩ := HA.out.get evF_len (by omega) hlt
      obtain ⟨e', b2, o2, he', rfl, hlb', hcell'⟩ := HB.out.get evF_len (by omega) hlt
      obtain rfl : e' = e := by rw [he] at he'; injection he' with h; exact h.symm
      have e0 : wr.cell? ⟨b1, o1 + k * 5, none⟩ = some (.int .i64 e'.tm) := (hB.cell (p := ⟨b1, o1 + (k * 5 + 0), none⟩) hlb).trans (hcell 0 _ rfl)
      have e1 : wr.cell? ⟨b1, o1 + k * 5 + 1, none⟩ = some (.int .i64 e'.kind) := (hB.cell (p := ⟨b1, o1 + (k * 5 + 1), none⟩) hlb).trans (hcell 1 _ rfl)
      have e2 : wr.cell? ⟨b1, o1 + k * 5 + 2, none⟩ = some (.int .i64 e'.bank) := (hB.cell (p := ⟨b1, o1 + (k * 5 + 2), none⟩) hlb).trans (hcell 2 _ rfl)
      have e3 : wr.cell? ⟨b1, o1 + k * 5 + 3, none⟩ = some (.int .i64 e'.row) := (hB.cell (p := ⟨b1, o1 + (k * 5 + 3), none⟩) hlb).trans (hcell 3 _ rfl)
      have e4 : wr.cell? ⟨b1, o1 + k * 5 + 4, none⟩ = some (.int .i64 e'.col) := (hB.cell (p := ⟨b1, o1 + (k * 5 + 4), none⟩) hlb).trans (hcell 4 _ rfl)
      have f0 : wr.cell? ⟨b2, o2 + k * 5, none⟩ = some (.int .i64 e'.tm) := (hB.cell (p := ⟨b2, o2 + (k * 5 + 0), none⟩) hlb').trans (hcell' 0 _ rfl)
      have f1 : wr.cell? ⟨b2, o2 + k * 5 + 1, none⟩ = some (.int .i64 e'.kind) := (hB.cell (p := ⟨b2, o2 + (k * 5 + 1), none⟩) hlb').trans (hcell' 1 _ rfl)
      have f2 : wr.cell? ⟨b2, o2 + k * 5 + 2, none⟩ = some (.int .i64 e'.bank) := (hB.cell (p := ⟨b2, o2 + (k * 5 + 2), none⟩) hlb').trans (hcell' 2 _ rfl)
      have f3 : wr.cell? ⟨b2, o2 + k * 5 + 3, none⟩ = some (.int .i64 e'.row) := (hB.cell (p := ⟨b2, o2 + (k * 5 + 3), none⟩) hlb').trans (hcell' 3 _ rfl)
      have f4 : wr.cell? ⟨b2, o2 + k * 5 + 4, none⟩ = some (.int .i64 e'.col) := (hB.cell (p := ⟨b2, o2 + (k * 5 + 4), none⟩) hlb').trans (hcell' 4 _ rfl)
      have h1 : (0 : Int) ≤ (k : Int) := by omega
      have h2 : (k : Int) < (n : Int) := by omega
      have hs1 := hB.size
      have hl1 : b1 < wr.heap.size := by omega
      have hl2 : b2 < wr.heap.size := by omega
      clear hcell hcell' he he'
      go_wp2_with fail
      go_region_held3 (fun v => v.cell? ⟨b1, o1 + k * 5, none⟩ = some (.int .i64 e'.tm) ∧ v.cell? ⟨b1, o1 + k * 5 + 1, none⟩ = some (.int .i64 e'.kind) ∧ v.cell? ⟨b1, o1 + k * 5 + 2, none⟩ = some (.int .i64 e'.bank) ∧ v.cell? ⟨b1, o1 + k * 5 + 3, none⟩ = some (.int .i64 e'.row) ∧ v.cell? ⟨b1, o1 + k * 5 + 4, none⟩ = some (.int .i64 e'.col) ∧ v.cell? ⟨b2, o2 + k * 5, none⟩ = some (.int .i64 e'.tm) ∧ v.cell? ⟨b2, o2 + k * 5 + 1, none⟩ = some (.int .i64 e'.kind) ∧ v.cell? ⟨b2, o2 + k * 5 + 2, none⟩ = some (.int .i64 e'.bank) ∧ v.cell? ⟨b2, o2 + k * 5 + 3, none⟩ = some (.int .i64 e'.row) ∧ v.cell? ⟨b2, o2 + k * 5 + 4, none⟩ = some (.int .i64 e'.col)) (go_keep)
        (first | (go_at_call 109; refine (laws_eqEvent e' _).mono ?_; rintro e w1 ⟨rfl, h1⟩; (try (have hz0 : wr.heap.size < w1.heap.size := (by have := h1.size; (try simp at this); omega); have hl0 := (fun o => (bcell h1).1 (wr.heap.size) o (by go_size)); have hv0 := (fun o => (bcell h1).2 (wr.heap.size) o (by go_size)))); replace h1 : Below wr.heap.size wr w1 := bthen (by go_grown) h1 (by first | go_size | omega); obtain ⟨hc1, hf1⟩ := bcell h1; have hB2 : Below w.heap.size w w1 := bthen hB h1 (by omega)))
      go_wp2_with fail
      go_roundw
      case rel => exact ⟨k + 1, by omega, by go_num, by first | assumption | exact bdrawn (by assumption) _⟩
      case measure => simp [intOf]; omega
    · go_wp2
      go_ret
      exact ⟨rfl, hB⟩
def markEv (k0 : Int) (i : Nat) : Ev := ⟨k0 + (i : Int) * 5, k0 + (i : Int) * 5 + 1, k0 + (i : Int) * 5 + 1 + 1, k0 + (i : Int) * 5 + 1 + 1 + 1, k0 + (i : Int) * 5 + 1 + 1 + 1 + 1⟩
def marksEv (k0 : Int) (n : Nat) : List Ev := (List.range n).map (markEv k0)
theorem marksEv_len (k0 : Int) (n : Nat) : (marksEv k0 n).length = n := by simp [marksEv]
theorem marksEv_at (k0 : Int) (n k : Nat) (h : k < n) : (marksEv k0 n)[k]? = some (markEv k0 k) := by simp [marksEv, List.getElem?_range h]
def MarkedEv (lo hi : Nat) (w : World) (a : Option Addr) (n c : Nat) (k0 : Int) (e : Ending) (w' : World) : Prop :=
  e = .returned (.int .i64 (k0 + (n : Int) * 5)) ∧ Owned lo hi w' 100 5 a n c ((marksEv k0 n).flatMap evF) ∧ Save lo hi w w'
set_option maxRecDepth 100000 in
set_option maxHeartbeats 1000000 in
theorem laws_markEventS (lo hi : Nat) (a : Option Addr) (n c : Nat) (k0 : Int) (xs : List Value) (w : World) (hk0 : 0 ≤ k0 ∧ k0 ≤ 1000000000) (hs : n ≤ 1048576) (ho : Owned lo hi w 100 5 a n c xs) :
    Calls Try.prog 57 #[.slice a n c, .int .i64 k0] w (MarkedEv lo hi w a n c k0) := by
  have hk1 := hk0.1; have hk2 := hk0.2
  clear hk0
  have hxl := hide ho.1.1
  have hc := (Owned.caps ho).1
  have hm : c ≤ 9223372036854775807 := (Owned.caps ho).2
  go_enter Try.func57, Try.ntmps57
  go_wp2
  go_loopw [1, 5] (fun v i wr => ∃ k : Nat, k ≤ n ∧ i = .int .i64 k ∧ v = .int .i64 (k0 + (k : Int) * 5) ∧ Owned lo hi wr 100 5 a n c (((marksEv k0 n).take k).flatMap evF ++ xs.drop (k * 5)) ∧ Save lo hi w wr) (fun _ i _ => n - (intOf i).toNat)
  case atStart => exact ⟨0, by omega, rfl, by simp, by simpa using ho, Save.refl _ _ _⟩
  case round =>
    clear ho
    obtain ⟨k, hk, rfl, rfl, hO, hS⟩ := hrel
    by_cases hlt : k < n
    · obtain ⟨g, rfl, hg1, hg2, hg3, hcell, hfr⟩ := hO.some (by omega)
      have hc0 : ∀ j, j < 5 → ∃ u, wr.cell? ⟨g, k * 5 + j, none⟩ = some u := fun j hj => ⟨_, (hcell (k * 5 + j) (by omega)).trans (List.getElem?_eq_getElem (by rw [hO.1.1]; omega))⟩
      obtain ⟨u0, c0⟩ := hc0 0 (by omega)
      obtain ⟨u1, c1⟩ := hc0 1 (by omega)
      obtain ⟨u2, c2⟩ := hc0 2 (by omega)
      obtain ⟨u3, c3⟩ := hc0 3 (by omega)
      obtain ⟨u4, c4⟩ := hc0 4 (by omega)
      replace c2 : wr.cell? ⟨g, k * 5 + 1 + 1, none⟩ = some u2 := c2
      replace c3 : wr.cell? ⟨g, k * 5 + 1 + 2, none⟩ = some u3 := c3
      replace c4 : wr.cell? ⟨g, k * 5 + 1 + 3, none⟩ = some u4 := c4
      replace c0 : wr.cell? ⟨g, k * 5, none⟩ = some u0 := c0
      have h1 : (0 : Int) ≤ (k : Int) := by omega
      have h2 : (k : Int) < (n : Int) := by omega
      have HM := hide (marksEv_at k0 n k hlt)
      have HO := hide hO
      clear hO hcell hc0
      go_wp2
      go_roundw
      case rel =>
        obtain ⟨h3, h4⟩ := store_owned HO.out (k * 5) 0 (evF (markEv k0 k))
        refine ⟨k + 1, by omega, by go_num, by simp; omega, ?_, hS.trans ?_⟩
        · rw [row_over (sz := 5) (by rw [flat_len evF_len, List.length_take, marksEv_len]; omega) hlt hxl.out rfl, ← flat_snoc HM.out] at h3
          exact h3
        · exact h4
      case measure => simp [intOf]; omega
    · go_wp2
      go_ret
      obtain rfl : k = n := by omega
      rw [List.take_of_length_le (by simp [marksEv_len]), List.drop_eq_nil_of_le (by rw [hxl.out]; exact Nat.le_refl _), List.append_nil] at hO
      exact ⟨rfl, hO, hS⟩
set_option maxRecDepth 100000 in
set_option maxHeartbeats 1000000 in
theorem laws_heldEventS (a : Option Addr) (n c : Nat) (k0 : Int) (w : World) (hk0 : 0 ≤ k0 ∧ k0 ≤ 1000000000) (hs : n ≤ 1048576) (hb : IsStructs evF 5 w a n c (marksEv k0 n)) :
    Calls Try.prog 58 #[.slice a n c, .int .i64 k0] w fun e w' => e = .returned (.int .i64 (k0 + (n : Int) * 5)) ∧ Below w.heap.size w w' := by
  have hk1 := hk0.1; have hk2 := hk0.2
  clear hk0
  have HA := hide hb
  have hc := hb.2.1; have hm : c ≤ 9223372036854775807 := hb.2.2.1
  clear hb
  go_enter Try.func58, Try.ntmps58
  go_wp2
  go_loopw [1, 5] (fun v i wr => ∃ k : Nat, k ≤ n ∧ i = .int .i64 k ∧ v = .int .i64 (k0 + (k : Int) * 5) ∧ Below w.heap.size w wr) (fun _ i _ => n - (intOf i).toNat)
  case atStart => exact ⟨0, by omega, rfl, by simp, Below.refl _ _⟩
  case round =>
    obtain ⟨k, hk, rfl, rfl, hB⟩ := hrel
    by_cases hlt : k < n
    · obtain ⟨e, b1, o1, he, rfl, hlb, hcell⟩ := HA.out.get evF_len (by omega) hlt
      rw [marksEv_at k0 n k hlt] at he
      injection he with he
      subst he
      have e0 : wr.cell? ⟨b1, o1 + k * 5, none⟩ = some (.int .i64 (k0 + (k : Int) * 5)) := (hB.cell (p := ⟨b1, o1 + (k * 5 + 0), none⟩) hlb).trans (hcell 0 _ rfl)
      have e1 : wr.cell? ⟨b1, o1 + k * 5 + 1, none⟩ = some (.int .i64 (k0 + (k : Int) * 5 + 1)) := (hB.cell (p := ⟨b1, o1 + (k * 5 + 1), none⟩) hlb).trans (hcell 1 _ rfl)
      have e2 : wr.cell? ⟨b1, o1 + k * 5 + 1 + 1, none⟩ = some (.int .i64 (k0 + (k : Int) * 5 + 1 + 1)) := (hB.cell (p := ⟨b1, o1 + (k * 5 + 2), none⟩) hlb).trans (hcell 2 _ rfl)
      have e3 : wr.cell? ⟨b1, o1 + k * 5 + 1 + 2, none⟩ = some (.int .i64 (k0 + (k : Int) * 5 + 1 + 1 + 1)) := (hB.cell (p := ⟨b1, o1 + (k * 5 + 3), none⟩) hlb).trans (hcell 3 _ rfl)
      have e4 : wr.cell? ⟨b1, o1 + k * 5 + 1 + 3, none⟩ = some (.int .i64 (k0 + (k : Int) * 5 + 1 + 1 + 1 + 1)) := (hB.cell (p := ⟨b1, o1 + (k * 5 + 4), none⟩) hlb).trans (hcell 4 _ rfl)
      have h1 : (0 : Int) ≤ (k : Int) := by omega
      have h2 : (k : Int) < (n : Int) := by omega
      clear hcell
      go_wp2
      go_roundw
      case rel => exact ⟨k + 1, by omega, by go_num, by simp; omega, hB⟩
      case measure => simp [intOf]; omega
    · go_wp2
      go_ret
      obtain rfl : k = n := by omega
      exact ⟨rfl, hB⟩
theorem laws_toGeometry (g : Ge) (w : World) :
    Calls Try.prog 53 #[.agg #[.int .i64 g.gr, .int .i64 g.bk, .int .i64 g.rw, .int .i64 g.cl]] w fun e w' => e = .returned (.agg #[.int .i64 g.gr, .int .i64 g.bk, .int .i64 g.rw, .int .i64 g.cl]) ∧ Below w.heap.size w w' := by
  go_enter Try.func53, Try.ntmps53
  go_wp2
  refine bodyPost_ret (by simp [results, Try.results53, go_sem, *]; try rfl) rfl ?_
  exact ⟨rfl, by go_grown⟩
theorem laws_toMapping (mo : Int) (mh : Bool) (w : World) :
    Calls Try.prog 55 #[.agg #[.int .i64 mo, .bool mh]] w fun e w' => e = .returned (.agg #[.int .i64 mo, .bool mh]) ∧ Below w.heap.size w w' := by
  go_enter Try.func55, Try.ntmps55
  go_wp2
  refine bodyPost_ret (by simp [results, Try.results55, go_sem, *]; try rfl) rfl ?_
  exact ⟨rfl, by go_grown⟩
end Go.Proofs.Ytahfbhfmhccgoaa
