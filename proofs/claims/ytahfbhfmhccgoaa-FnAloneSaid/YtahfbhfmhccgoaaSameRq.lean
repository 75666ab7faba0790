/- The laws' comparison of two lists of requests, and of served requests. -/
import Derived.Test.YtahfbhfmhccgoaaRequest
import Derived.Test.YtahfbhfmhccgoaaServed
set_option linter.unusedSimpArgs false
set_option linter.unusedVariables false
namespace Go.Proofs.Ytahfbhfmhccgoaa
open Go.RowKit Go.ChangeShapes Go.WideShapes Go.ChangeAt Go.Joins Go.Deep
open Go.ChangeMaps (open_string shut_string)
set_option maxRecDepth 100000 in
set_option maxHeartbeats 1000000 in
theorem laws_sameRequest (a b : Option Addr) (n c c' : Nat) (es : List Rq) (w : World) (ha : IsStructs rqF 6 w a n c es) (hb : IsStructs rqF 6 w b n c' es) :
    Calls Try.prog 35 #[.slice a n c, .slice b n c'] w fun e w' => e = .returned (.bool true) ∧ Below w.heap.size w w' := by
  have HA := hide ha; have HB := hide hb
  have hc := ha.2.1; have hm : c ≤ 9223372036854775807 := ha.2.2.1
  clear ha hb
  go_enter Try.func35, Try.ntmps35
  go_wp2
  go_loopw [5] (fun i wr => ∃ k : Nat, k ≤ n ∧ i = .int .i64 k ∧ Below w.heap.size w wr) (fun i _ => n - (intOf i).toNat)
  case atStart => exact ⟨0, by omega, rfl, Below.refl _ _⟩
  case round =>
    obtain ⟨k, hk, rfl, hB⟩ := hrel
    by_cases hlt : k < n
    · obtain ⟨e, b1, o1, he, rfl, hlb, hcell⟩ := HA.out.get rqF_len (by omega) hlt
      obtain ⟨e', b2, o2, he', rfl, hlb', hcell'⟩ := HB.out.get rqF_len (by omega) hlt
      obtain rfl : e' = e := by rw [he] at he'; injection he' with h; exact h.symm
      have e0 : wr.cell? ⟨b1, o1 + k * 6, none⟩ = some (.int .i64 e'.id) := (hB.cell (p := ⟨b1, o1 + (k * 6 + 0), none⟩) hlb).trans (hcell 0 _ rfl)
      have e1 : wr.cell? ⟨b1, o1 + k * 6 + 1, none⟩ = some (.int .i64 e'.tenant) := (hB.cell (p := ⟨b1, o1 + (k * 6 + 1), none⟩) hlb).trans (hcell 1 _ rfl)
      have e2 : wr.cell? ⟨b1, o1 + k * 6 + 2, none⟩ = some (.int .i64 e'.line) := (hB.cell (p := ⟨b1, o1 + (k * 6 + 2), none⟩) hlb).trans (hcell 2 _ rfl)
      have e3 : wr.cell? ⟨b1, o1 + k * 6 + 3, none⟩ = some (.bool e'.write) := (hB.cell (p := ⟨b1, o1 + (k * 6 + 3), none⟩) hlb).trans (hcell 3 _ rfl)
      have e4 : wr.cell? ⟨b1, o1 + k * 6 + 4, none⟩ = some (.int .i64 e'.data) := (hB.cell (p := ⟨b1, o1 + (k * 6 + 4), none⟩) hlb).trans (hcell 4 _ rfl)
      have e5 : wr.cell? ⟨b1, o1 + k * 6 + 5, none⟩ = some (.int .i64 e'.tm) := (hB.cell (p := ⟨b1, o1 + (k * 6 + 5), none⟩) hlb).trans (hcell 5 _ rfl)
      have f0 : wr.cell? ⟨b2, o2 + k * 6, none⟩ = some (.int .i64 e'.id) := (hB.cell (p := ⟨b2, o2 + (k * 6 + 0), none⟩) hlb').trans (hcell' 0 _ rfl)
      have f1 : wr.cell? ⟨b2, o2 + k * 6 + 1, none⟩ = some (.int .i64 e'.tenant) := (hB.cell (p := ⟨b2, o2 + (k * 6 + 1), none⟩) hlb').trans (hcell' 1 _ rfl)
      have f2 : wr.cell? ⟨b2, o2 + k * 6 + 2, none⟩ = some (.int .i64 e'.line) := (hB.cell (p := ⟨b2, o2 + (k * 6 + 2), none⟩) hlb').trans (hcell' 2 _ rfl)
      have f3 : wr.cell? ⟨b2, o2 + k * 6 + 3, none⟩ = some (.bool e'.write) := (hB.cell (p := ⟨b2, o2 + (k * 6 + 3), none⟩) hlb').trans (hcell' 3 _ rfl)
      have f4 : wr.cell? ⟨b2, o2 + k * 6 + 4, none⟩ = some (.int .i64 e'.data) := (hB.cell (p := ⟨b2, o2 + (k * 6 + 4), none⟩) hlb').trans (hcell' 4 _ rfl)
      have f5 : wr.cell? ⟨b2, o2 + k * 6 + 5, none⟩ = some (.int .i64 e'.tm) := (hB.cell (p := ⟨b2, o2 + (k * 6 + 5), none⟩) hlb').trans (hcell' 5 _ rfl)
      have h1 : (0 : Int) ≤ (k : Int) := by omega
      have h2 : (k : Int) < (n : Int) := by omega
      clear hcell hcell' he he'
      go_wp2_with fail
      go_quiet (fail)
      go_wp2_with fail
      go_roundw
      case rel => exact ⟨k + 1, by omega, by go_num, bdrawn hB _⟩
      case measure => simp [intOf]; omega
    · go_wp2
      go_ret
      exact ⟨rfl, hB⟩
set_option maxRecDepth 100000 in
set_option maxHeartbeats 1000000 in
theorem laws_sameServed (a b : Option Addr) (n c c' : Nat) (es : List Sv) (w : World) (ha : IsStructs svF 2 w a n c es) (hb : IsStructs svF 2 w b n c' es) :
    Calls Try.prog 34 #[.slice a n c, .slice b n c'] w fun e w' => e = .returned (.bool true) ∧ Below w.heap.size w w' := by
  have HA := hide ha; have HB := hide hb
  have hc := ha.2.1; have hm : c ≤ 9223372036854775807 := ha.2.2.1
  clear ha hb
  go_enter Try.func34, Try.ntmps34
  go_wp2
  go_loopw [5] (fun i wr => ∃ k : Nat, k ≤ n ∧ i = .int .i64 k ∧ Below w.heap.size w wr) (fun i _ => n - (intOf i).toNat)
  case atStart => exact ⟨0, by omega, rfl, Below.refl _ _⟩
  case round =>
    obtain ⟨k, hk, rfl, hB⟩ := hrel
    by_cases hlt : k < n
    · obtain ⟨e, b1, o1, he, rfl, hlb, hcell⟩ := HA.out.get svF_len (by omega) hlt
      obtain ⟨e', b2, o2, he', rfl, hlb', hcell'⟩ := HB.out.get svF_len (by omega) hlt
      obtain rfl : e' = e := by rw [he] at he'; injection he' with h; exact h.symm
      have e0 : wr.cell? ⟨b1, o1 + k * 2, none⟩ = some (.int .i64 e'.id) := (hB.cell (p := ⟨b1, o1 + (k * 2 + 0), none⟩) hlb).trans (hcell 0 _ rfl)
      have e1 : wr.cell? ⟨b1, o1 + k * 2 + 1, none⟩ = some (.int .i64 e'.tm) := (hB.cell (p := ⟨b1, o1 + (k * 2 + 1), none⟩) hlb).trans (hcell 1 _ rfl)
      have f0 : wr.cell? ⟨b2, o2 + k * 2, none⟩ = some (.int .i64 e'.id) := (hB.cell (p := ⟨b2, o2 + (k * 2 + 0), none⟩) hlb').trans (hcell' 0 _ rfl)
      have f1 : wr.cell? ⟨b2, o2 + k * 2 + 1, none⟩ = some (.int .i64 e'.tm) := (hB.cell (p := ⟨b2, o2 + (k * 2 + 1), none⟩) hlb').trans (hcell' 1 _ rfl)
      have h1 : (0 : Int) ≤ (k : Int) := by omega
      have h2 : (k : Int) < (n : Int) := by omega
      clear hcell hcell' he he'
      go_wp2_with fail
      go_quiet (fail)
      go_wp2_with fail
      go_roundw
      case rel => exact ⟨k + 1, by omega, by go_num, bdrawn hB _⟩
      case measure => simp [intOf]; omega
    · go_wp2
      go_ret
      exact ⟨rfl, hB⟩
end Go.Proofs.Ytahfbhfmhccgoaa
