/- SharesOk and SharesNew, of the program and of the reference. -/
import Derived.Test.YtahfbhfmhccgoaaShare
set_option linter.unusedSimpArgs false
set_option linter.unusedVariables false
namespace Go.Proofs.Ytahfbhfmhccgoaa
open Go.RowKit Go.ChangeShapes Go.WideShapes Go.ChangeAt Go.Joins Go.Deep
open Go.ChangeMaps (open_string shut_string)
def shareOk (e : Sh) : Bool := btw e.weight 1 9 && btw e.credit 0 e.weight
def sharesOkB (es : List Sh) : Bool := es.all shareOk && btw es.length 1 4
theorem sharesOk_no {es : List Sh} {k : Nat} {e : Sh} (he : es[k]? = some e) (h : shareOk e = false) : sharesOkB es = false := by
  unfold sharesOkB
  rw [show es.all shareOk = false by rw [List.all_eq_false]; exact ⟨e, List.mem_of_getElem? he, by simp [h]⟩]; rfl
theorem all_next {α : Type} {p : α → Bool} {es : List α} {k : Nat} {e : α} (h : ((es.take k).all p) = true) (he : es[k]? = some e) (hp : p e = true) : ((es.take (k + 1)).all p) = true := by
  rw [take_snoc he, List.all_append, h]; simp [hp]
theorem sharesOk_end {es : List Sh} {n : Nat} (hn : es.length = n) (h : ((es.take n).all shareOk) = true) : sharesOkB es = btw n 1 4 := by
  unfold sharesOkB
  rw [List.take_of_length_le (by omega)] at h
  rw [h, hn]; rfl

set_option maxHeartbeats 1000000 in
theorem spec_SharesOk (a : Option Addr) (n c : Nat) (es : List Sh) (w : World) (ha : IsStructs shF 2 w a n c es) (hs : n ≤ 2097152) :
    Calls Try.prog 73 #[.slice a n c] w fun r w' => r = .returned (.bool (sharesOkB es)) ∧ Below w.heap.size w w' := by
  have HA := hide ha
  have hc := ha.2.1
  clear ha
  go_enter Try.func73, Try.ntmps73
  go_wp2
  go_loopw [3] (fun i wr => ∃ k : Nat, k ≤ n ∧ i = .int .i64 k ∧ Hid (((es.take k).all shareOk) = true) ∧ Below w.heap.size w wr) (fun i _ => n - (intOf i).toNat)
  case atStart => exact ⟨0, by omega, rfl, hide rfl, Below.refl _ _⟩
  case round =>
    obtain ⟨k, hk, rfl, HT, hB⟩ := hrel
    by_cases hlt : k < n
    · obtain ⟨e, b1, o1, hh_e, rfl, hlb, hcell⟩ := HA.out.get shF_len (by omega) (show k < n by omega)
      have e0 : wr.cell? ⟨b1, o1 + k * 2, none⟩ = some (.int .i64 e.weight) := (hB.cell (p := ⟨b1, o1 + (k * 2 + 0), none⟩) hlb).trans (hcell 0 _ rfl)
      have e1 : wr.cell? ⟨b1, o1 + k * 2 + 1, none⟩ = some (.int .i64 e.credit) := (hB.cell (p := ⟨b1, o1 + (k * 2 + 1), none⟩) hlb).trans (hcell 1 _ rfl)
      have HE_e := hide hh_e
      have sz_e := hB.size
      have lt_b1 : b1 < wr.heap.size := (by have := hB.size; omega)
      have i0_e : (0 : Int) ≤ (k : Int) := by omega
      have i1_e : (k : Int) < (n : Int) := by omega
      clear hcell hlb hh_e
      cases q1 : btw e.weight 1 9
      · go_wp2_with fail
        go_quiet ((first | (go_at_call 78; exact quiet_same (spec_l01In _ _ _ _))))
        go_wp2_with fail
        go_ret
        exact ⟨ret_bool (by rw [sharesOk_no HE_e.out (by unfold shareOk; rw [q1]; rfl)]), (by repeat' (first | (with_reducible exact Below.refl _ _) | (with_reducible assumption) | (with_reducible refine bdrawn ?_ _) | (with_reducible refine Below.alloc ?_ ?_ _) | (with_reducible refine Below.drew ?_) | (with_reducible refine Below.setCell ?_ ?_ _) | go_size))⟩
      · cases q2 : btw e.credit 0 e.weight
        · go_wp2_with fail
          go_quiet ((first | (go_at_call 78; exact quiet_same (spec_l01In _ _ _ _))))
          go_wp2_with fail
          go_ret
          exact ⟨ret_bool (by rw [sharesOk_no HE_e.out (by unfold shareOk; rw [q2]; simp)]), (by repeat' (first | (with_reducible exact Below.refl _ _) | (with_reducible assumption) | (with_reducible refine bdrawn ?_ _) | (with_reducible refine Below.alloc ?_ ?_ _) | (with_reducible refine Below.drew ?_) | (with_reducible refine Below.setCell ?_ ?_ _) | go_size))⟩
        · go_wp2_with fail
          go_quiet ((first | (go_at_call 78; exact quiet_same (spec_l01In _ _ _ _))))
          go_wp2_with fail
          go_roundw
          case rel => exact ⟨k + 1, by omega, by go_num, hide (all_next HT.out HE_e.out (by unfold shareOk; rw [q1, q2]; rfl)), (by repeat' (first | (with_reducible exact Below.refl _ _) | (with_reducible assumption) | (with_reducible refine bdrawn ?_ _) | (with_reducible refine Below.alloc ?_ ?_ _) | (with_reducible refine Below.drew ?_) | (with_reducible refine Below.setCell ?_ ?_ _) | go_size))⟩
          case measure => simp [intOf]; omega
    · have HV := hide (sharesOk_end HA.out.1 (by rw [show n = k by omega]; exact HT.out))
      go_wp2_with (first | (go_at_call 78; refine (spec_l01In _ _ _ _).mono ?_; rintro e w1 ⟨rfl, rfl⟩))
      go_ret
      exact ⟨ret_bool (by rw [HV.out]), hB⟩

set_option maxHeartbeats 1000000 in
theorem impl_SharesOk (a : Option Addr) (n c : Nat) (es : List Sh) (w : World) (ha : IsStructs shF 2 w a n c es) (hs : n ≤ 2097152) :
    Calls Try.prog 72 #[.slice a n c] w fun r w' => r = .returned (.bool (sharesOkB es)) ∧ Below w.heap.size w w' := by
  have HA := hide ha
  have hc := ha.2.1
  clear ha
  go_enter Try.func72, Try.ntmps72
  go_wp2
  go_loopw [7] (fun i wr => ∃ k : Nat, k ≤ n ∧ i = .int .i64 k ∧ Hid (((es.take k).all shareOk) = true) ∧ Below w.heap.size w wr) (fun i _ => n - (intOf i).toNat)
  case atStart => exact ⟨0, by omega, rfl, hide rfl, Below.refl _ _⟩
  case round =>
    obtain ⟨k, hk, rfl, HT, hB⟩ := hrel
    by_cases hlt : k < n
    · obtain ⟨e, b1, o1, hh_e, rfl, hlb, hcell⟩ := HA.out.get shF_len (by omega) (show k < n by omega)
      have e0 : wr.cell? ⟨b1, o1 + k * 2, none⟩ = some (.int .i64 e.weight) := (hB.cell (p := ⟨b1, o1 + (k * 2 + 0), none⟩) hlb).trans (hcell 0 _ rfl)
      have e1 : wr.cell? ⟨b1, o1 + k * 2 + 1, none⟩ = some (.int .i64 e.credit) := (hB.cell (p := ⟨b1, o1 + (k * 2 + 1), none⟩) hlb).trans (hcell 1 _ rfl)
      have HE_e := hide hh_e
      have sz_e := hB.size
      have lt_b1 : b1 < wr.heap.size := (by have := hB.size; omega)
      have i0_e : (0 : Int) ≤ (k : Int) := by omega
      have i1_e : (k : Int) < (n : Int) := by omega
      clear hcell hlb hh_e
      cases q1 : btw e.weight 1 9
      · go_wp2_with (first | (go_at_call 77; refine (impl_between _ _ _ _).mono ?_; rintro e w1 ⟨rfl, rfl⟩))
        go_ret
        exact ⟨ret_bool (by rw [sharesOk_no HE_e.out (by unfold shareOk; rw [q1]; rfl)]), (by repeat' (first | (with_reducible exact Below.refl _ _) | (with_reducible assumption) | (with_reducible refine bdrawn ?_ _) | (with_reducible refine Below.alloc ?_ ?_ _) | (with_reducible refine Below.drew ?_) | (with_reducible refine Below.setCell ?_ ?_ _) | go_size))⟩
      · cases q2 : btw e.credit 0 e.weight
        · go_wp2_with (first | (go_at_call 77; refine (impl_between _ _ _ _).mono ?_; rintro e w1 ⟨rfl, rfl⟩))
          go_ret
          exact ⟨ret_bool (by rw [sharesOk_no HE_e.out (by unfold shareOk; rw [q2]; simp)]), (by repeat' (first | (with_reducible exact Below.refl _ _) | (with_reducible assumption) | (with_reducible refine bdrawn ?_ _) | (with_reducible refine Below.alloc ?_ ?_ _) | (with_reducible refine Below.drew ?_) | (with_reducible refine Below.setCell ?_ ?_ _) | go_size))⟩
        · go_wp2_with (first | (go_at_call 77; refine (impl_between _ _ _ _).mono ?_; rintro e w1 ⟨rfl, rfl⟩))
          go_roundw
          case rel => exact ⟨k + 1, by omega, by go_num, hide (all_next HT.out HE_e.out (by unfold shareOk; rw [q1, q2]; rfl)), (by repeat' (first | (with_reducible exact Below.refl _ _) | (with_reducible assumption) | (with_reducible refine bdrawn ?_ _) | (with_reducible refine Below.alloc ?_ ?_ _) | (with_reducible refine Below.drew ?_) | (with_reducible refine Below.setCell ?_ ?_ _) | go_size))⟩
          case measure => simp [intOf]; omega
    · have HV := hide (sharesOk_end HA.out.1 (by rw [show n = k by omega]; exact HT.out))
      go_wp2_with (first | (go_at_call 77; refine (impl_between _ _ _ _).mono ?_; rintro e w1 ⟨rfl, rfl⟩))
      go_ret
      exact ⟨ret_bool (by rw [HV.out]), hB⟩

def newShare (z : Int) : Sh := ⟨z, z⟩
def newOkB (zs : List Int) : Bool := sharesOkB (zs.map newShare)
def newShares (zs : List Int) : List Sh := if newOkB zs = true then zs.map newShare else []
def GotShares (w : World) (es : List Sh) (ok : Bool) (e : Ending) (w' : World) : Prop :=
  ∃ n a c, e = .returned (.tuple #[.slice a n c, .bool ok]) ∧ w'.ownsRow w.heap.size 112 2 (.slice a n c) n (es.flatMap shF) ∧ es.length = n ∧ n ≤ 4 ∧ Below w.heap.size w w'
theorem newShares_le (zs : List Int) : (newShares zs).length ≤ 4 := by
  unfold newShares newOkB
  split
  · next h => unfold sharesOkB at h; simp [btw] at h; have := h.2.2; simp; omega
  · simp
theorem impl_SharesOk_is (a : Option Addr) (n c : Nat) (es : List Sh) (b : Bool) (h : sharesOkB es = b) (w : World) (ha : IsStructs shF 2 w a n c es) (hs : n ≤ 2097152) :
    Calls Try.prog 72 #[.slice a n c] w fun r w' => r = .returned (.bool b) ∧ Below w.heap.size w w' := by subst h; exact impl_SharesOk a n c es w ha hs
theorem spec_SharesOk_is (a : Option Addr) (n c : Nat) (es : List Sh) (b : Bool) (h : sharesOkB es = b) (w : World) (ha : IsStructs shF 2 w a n c es) (hs : n ≤ 2097152) :
    Calls Try.prog 73 #[.slice a n c] w fun r w' => r = .returned (.bool b) ∧ Below w.heap.size w w' := by subst h; exact spec_SharesOk a n c es w ha hs
theorem newOk_take {zs : List Int} {n k : Nat} (hn : zs.length = n) (hk : k = min n 5) : sharesOkB ((zs.take k).map newShare) = newOkB zs := by
  by_cases h : n ≤ 5
  · rw [List.take_of_length_le (by omega)]; rfl
  · have h5 : k = 5 := by omega
    subst h5
    unfold newOkB sharesOkB
    rw [btw_hi (show (4 : Int) < (((zs.take 5).map newShare).length : Int) by simp; omega), btw_hi (show (4 : Int) < ((zs.map newShare).length : Int) by simp; omega), Bool.and_false, Bool.and_false]
theorem newShares_take {zs : List Int} {n k : Nat} (hn : zs.length = n) (hk : k = min n 5) (h : newOkB zs = true) : newShares zs = (zs.take k).map newShare := by
  have hl := newShares_le zs
  unfold newShares at hl ⊢
  rw [if_pos h] at hl ⊢
  rw [List.length_map] at hl
  rw [List.take_of_length_le (by omega)]
theorem newShares_no (zs : List Int) (h : newOkB zs = false) : newShares zs = [] := by unfold newShares; rw [h]; rfl
end Go.Proofs.Ytahfbhfmhccgoaa
