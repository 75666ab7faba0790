/- SharesOk and SharesNew, of the program and of the reference. -/
import Derived.Test.YtlaoeaecbdmebaaShare
set_option linter.unusedSimpArgs false
set_option linter.unusedVariables false
namespace Go.Proofs.Ytlaoeaecbdmebaa
open Go.RowKit Go.ChangeShapes Go.WideShapes Go.ChangeAt Go.Joins Go.Deep
open Go.ChangeMaps (open_string shut_string)
def shareOk (e : Sh) : Bool := btw e.weight 1 9 && btw e.credit 0 e.weight
def sharesOkB (es : List Sh) : Bool := es.all shareOk && btw es.length 1 4
theorem sharesOk_no {es : List Sh} {k : Nat} {e : Sh} (he : es[k]? = some e) (h : shareOk e = false) : sharesOkB es = false := by
  unfold sharesOkB
  rw [show es.all shareOk = false by rw [List.all_eq_false]; exact ⟨e, List.mem_of_getElem? he, by simp [h]⟩]; rfl
theorem all_next {α : Type} {p : α → Bool} {es : List α} {k : Nat} {e : α} (h : ((es.take k).all p) = true) (he : es[k]? = some e) (hp : p e = true) : ((es.take (k + 1)).all p) = true := by
  rw [take_snoc he, List.all_append, h]; simp [hp]
theorem sharesOk_end {es : List Sh} {n : Nat} (hn : es.length = n) (h : ((es.take n).all shareOk) = true) : sharesOkB es = btw n 1 4 := by
  unfold sharesOkB
  rw [List.take_of_length_le (by omega)] at h
  rw [h, hn]; rfl

set_option maxHeartbeats 1000000 in
theorem spec_SharesOk (a : Option Addr) (n c : Nat) (es : List Sh) (w : World) (ha : IsStructs shF 2 w a n c es) (hs : n ≤ 2097152) :
    Calls Try.prog 81 #[.slice a n c] w fun r w' => r = .returned (.bool (sharesOkB es)) ∧ Below w.heap.size w w' := by
  have HA := hide ha
  have hc := ha.2.1
  clear ha
  go_enter Try.func81, Try.ntmps81
  go_wp2
  go_loopw [3] (fun i wr => ∃ k : Nat, k ≤ n ∧ i = .int .i64 k ∧ Hid (((es.take k).all shareOk) = true) ∧ Below w.heap.size w wr) (fun i _ => n - (intOf i).toNat)
  case atStart => exact ⟨0, by omega, rfl, hide rfl, Below.refl _ _⟩
  case round =>
    obtain ⟨k, hk, rfl, HT, hB⟩ := hrel
    by_cases hlt : k < n
    · obtain ⟨e, b1, o1, hh_e, rfl, hlb, hcell⟩ := HA.out.get shF_len (by omega) (show k < n by omega)
      have e0 : wr.cell? ⟨b1, o1 + k * 2, none⟩ = some (.int .i64 e.weight) := (hB.cell (p := ⟨b1, o1 + (k * 2 + 0), none⟩) hlb).trans (hcell 0 _ rfl)
      have e1 : wr.cell? ⟨b1, o1 + k * 2 + 1, none⟩ = some (.int .i64 e.credit) := (hB.cell (p := ⟨b1, o1 + (k * 2 + 1), none⟩) hlb).trans (hcell 1 _ rfl)
      have HE_e := hide hh_e
      have sz_e := hB.size
      have lt_b1 : b1 < wr.heap.size := (by have := hB.size; omega)
      have i0_e : (0 : Int) ≤ (k : Int) := by omega
      have i1_e : (k : Int) < (n : Int) := by omega
      clear hcell hlb hh_e
      cases q1 : btw e.weight 1 9
      · go_wp2_with fail
        go_quiet ((first | (go_at_call 79; exact quiet_same (spec_l01In _ _ _ _))))
        go_wp2_with fail
        go_ret
        exact ⟨ret_bool (by rw [sharesOk_no HE_e.out (by unfold shareOk; rw [q1]; rfl)]), (by repeat' (first | (with_reducible exact Below.refl _ _) | (with_reducible assumption) | (with_reducible refine bdrawn ?_ _) | (with_reducible refine Below.alloc ?_ ?_ _) | (with_reducible refine Below.drew ?_) | (with_reducible refine Below.setCell ?_ ?_ _) | go_size))⟩
      · cases q2 : btw e.credit 0 e.weight
        · go_wp2_with fail
          go_quiet ((first | (go_at_call 79; exact quiet_same (spec_l01In _ _ _ _))))
          go_wp2_with fail
          go_ret
          exact ⟨ret_bool (by rw [sharesOk_no HE_e.out (by unfold shareOk; rw [q2]; simp)]), (by repeat' (first | (with_reducible exact Below.refl _ _) | (with_reducible assumption) | (with_reducible refine bdrawn ?_ _) | (with_reducible refine Below.alloc ?_ ?_ _) | (with_reducible refine Below.drew ?_) | (with_reducible refine Below.setCell ?_ ?_ _) | go_size))⟩
        · go_wp2_with fail
          go_quiet ((first | (go_at_call 79; exact quiet_same (spec_l01In _ _ _ _))))
          go_wp2_with fail
          go_roundw
          case rel => exact ⟨k + 1, by omega, by go_num, hide (all_next HT.out HE_e.out (by unfold shareOk; rw [q1, q2]; rfl)), (by repeat' (first | (with_reducible exact Below.refl _ _) | (with_reducible assumption) | (with_reducible refine bdrawn ?_ _) | (with_reducible refine Below.alloc ?_ ?_ _) | (with_reducible refine Below.drew ?_) | (with_reducible refine Below.setCell ?_ ?_ _) | go_size))⟩
          case measure => simp [intOf]; omega
    · have HV := hide (sharesOk_end HA.out.1 (by rw [show n = k by omega]; exact HT.out))
      go_wp2_with (first | (go_at_call 79; refine (spec_l01In _ _ _ _).mono ?_; rintro e w1 ⟨rfl, rfl⟩))
      go_ret
      exact ⟨ret_bool (by rw [HV.out]), hB⟩

set_option maxHeartbeats 1000000 in
theorem impl_SharesOk (a : Option Addr) (n c : Nat) (es : List Sh) (w : World) (ha : IsStructs shF 2 w a n c es) (hs : n ≤ 2097152) :
    Calls Try.prog 82 #[.slice a n c] w fun r w' => r = .returned (.bool (sharesOkB es)) ∧ Below w.heap.size w w' := by
  have HA := hide ha
  have hc := ha.2.1
  clear ha
  go_enter Try.func82, Try.ntmps82
  go_wp2
  go_loopw [7] (fun i wr => ∃ k : Nat, k ≤ n ∧ i = .int .i64 k ∧ Hid (((es.take k).all shareOk) = true) ∧ Below w.heap.size w wr) (fun i _ => n - (intOf i).toNat)
  case atStart => exact ⟨0, by omega, rfl, hide rfl, Below.refl _ _⟩
  case round =>
    obtain ⟨k, hk, rfl, HT, hB⟩ := hrel
    by_cases hlt : k < n
    · obtain ⟨e, b1, o1, hh_e, rfl, hlb, hcell⟩ := HA.out.get shF_len (by omega) (show k < n by omega)
      have e0 : wr.cell? ⟨b1, o1 + k * 2, none⟩ = some (.int .i64 e.weight) := (hB.cell (p := ⟨b1, o1 + (k * 2 + 0), none⟩) hlb).trans (hcell 0 _ rfl)
      have e1 : wr.cell? ⟨b1, o1 + k * 2 + 1, none⟩ = some (.int .i64 e.credit) := (hB.cell (p := ⟨b1, o1 + (k * 2 + 1), none⟩) hlb).trans (hcell 1 _ rfl)
      have HE_e := hide hh_e
      have sz_e := hB.size
      have lt_b1 : b1 < wr.heap.size := (by have := hB.size; omega)
      have i0_e : (0 : Int) ≤ (k : Int) := by omega
      have i1_e : (k : Int) < (n : Int) := by omega
      clear hcell hlb hh_e
      cases q1 : btw e.weight 1 9
      · go_wp2_with (first | (go_at_call 80; refine (impl_between _ _ _ _).mono ?_; rintro e w1 ⟨rfl, rfl⟩))
        go_ret
        exact ⟨ret_bool (by rw [sharesOk_no HE_e.out (by unfold shareOk; rw [q1]; rfl)]), (by repeat' (first | (with_reducible exact Below.refl _ _) | (with_reducible assumption) | (with_reducible refine bdrawn ?_ _) | (with_reducible refine Below.alloc ?_ ?_ _) | (with_reducible refine Below.drew ?_) | (with_reducible refine Below.setCell ?_ ?_ _) | go_size))⟩
      · cases q2 : btw e.credit 0 e.weight
        · go_wp2_with (first | (go_at_call 80; refine (impl_between _ _ _ _).mono ?_; rintro e w1 ⟨rfl, rfl⟩))
          go_ret
          exact ⟨ret_bool (by rw [sharesOk_no HE_e.out (by unfold shareOk; rw [q2]; simp)]), (by repeat' (first | (with_reducible exact Below.refl _ _) | (with_reducible assumption) | (with_reducible refine bdrawn ?_ _) | (with_reducible refine Below.alloc ?_ ?_ _) | (with_reducible refine Below.drew ?_) | (with_reducible refine Below.setCell ?_ ?_ _) | go_size))⟩
        · go_wp2_with (first | (go_at_call 80; refine (impl_between _ _ _ _).mono ?_; rintro e w1 ⟨rfl, rfl⟩))
          go_roundw
          case rel => exact ⟨k + 1, by omega, by go_num, hide (all_next HT.out HE_e.out (by unfold shareOk; rw [q1, q2]; rfl)), (by repeat' (first | (with_reducible exact Below.refl _ _) | (with_reducible assumption) | (with_reducible refine bdrawn ?_ _) | (with_reducible refine Below.alloc ?_ ?_ _) | (with_reducible refine Below.drew ?_) | (with_reducible refine Below.setCell ?_ ?_ _) | go_size))⟩
          case measure => simp [intOf]; omega
    · have HV := hide (sharesOk_end HA.out.1 (by rw [show n = k by omega]; exact HT.out))
      go_wp2_with (first | (go_at_call 80; refine (impl_between _ _ _ _).mono ?_; rintro e w1 ⟨rfl, rfl⟩))
      go_ret
      exact ⟨ret_bool (by rw [HV.out]), hB⟩

def newShare (z : Int) : Sh := ⟨z, z⟩
def newOkB (zs : List Int) : Bool := sharesOkB (zs.map newShare)
def newShares (zs : List Int) : List Sh := if newOkB zs = true then zs.map newShare else []
def GotShares (w : World) (es : List Sh) (ok : Bool) (e : Ending) (w' : World) : Prop :=
  ∃ n a c, e = .returned (.tuple #[.slice a n c, .bool ok]) ∧ w'.ownsRow w.heap.size 107 2 (.slice a n c) n (es.flatMap shF) ∧ es.length = n ∧ n ≤ 4 ∧ Below w.heap.size w w'
theorem newShares_le (zs : List Int) : (newShares zs).length ≤ 4 := by
  unfold newShares newOkB
  split
  · next h => unfold sharesOkB at h; simp [btw] at h; have := h.2.2; simp; omega
  · simp
theorem impl_SharesOk_is (a : Option Addr) (n c : Nat) (es : List Sh) (b : Bool) (h : sharesOkB es = b) (w : World) (ha : IsStructs shF 2 w a n c es) (hs : n ≤ 2097152) :
    Calls Try.prog 82 #[.slice a n c] w fun r w' => r = .returned (.bool b) ∧ Below w.heap.size w w' := by subst h; exact impl_SharesOk a n c es w ha hs
theorem spec_SharesOk_is (a : Option Addr) (n c : Nat) (es : List Sh) (b : Bool) (h : sharesOkB es = b) (w : World) (ha : IsStructs shF 2 w a n c es) (hs : n ≤ 2097152) :
    Calls Try.prog 81 #[.slice a n c] w fun r w' => r = .returned (.bool b) ∧ Below w.heap.size w w' := by subst h; exact spec_SharesOk a n c es w ha hs
set_option maxRecDepth 100000 in
set_option maxHeartbeats 1000000 in
theorem impl_SharesNew (a : Option Addr) (n c : Nat) (zs : List Int) (w : World) (ha : IsInts .i64 w a n c zs) (hs : n ≤ 1048576) :
    Calls Try.prog 32 #[.slice a n c] w (GotShares w (newShares zs) (newOkB zs)) := by
  obtain ⟨i0_Sh, hi_Sh, hz0_Sh, hz1_Sh, hz2_Sh⟩ := info_parts info_Sh
  have HA := hide ha
  have hc := ha.2.1
  clear ha
  go_enter Try.func32, Try.ntmps32
  go_wp2_with fail
  go_loopw [4, 10] (fun v i wr => ∃ (k : Nat) (a' : Option Addr) (c' : Nat), k ≤ n ∧ i = .int .i64 k ∧ v = .slice a' k c' ∧ wr.ownsRow w.heap.size 107 2 (.slice a' k c') k (((zs.take k).map newShare).flatMap shF) ∧ Below w.heap.size w wr) (fun _ i _ => n - (intOf i).toNat)
  case atStart => exact ⟨0, _, _, by omega, rfl, rfl, World.ownsRow_made w #[] 0 (Nat.le_refl _) (by decide) rfl, (by repeat' (first | (with_reducible exact Below.refl _ _) | (with_reducible assumption) | (with_reducible refine bdrawn ?_ _) | (with_reducible refine Below.alloc ?_ ?_ _) | (with_reducible refine Below.drew ?_) | (with_reducible refine Below.setCell ?_ ?_ _) | go_size))⟩
  case round =>
    obtain ⟨k, a', c', hk, rfl, rfl, hown, hB⟩ := hrel
    have hs1 := hB.size
    by_cases hlt : k < n
    · obtain ⟨z, b1, o1, hz, rfl, hlb, hc1⟩ := HA.out.2.2.2.2.get (k := k) (by rw [HA.out.1]; exact hlt)
      have e1 := (hB.cell (p := ⟨b1, o1 + k, none⟩) hlb).trans hc1
      have HZ := hide hz
      have h1 : (0 : Int) ≤ (k : Int) := by omega
      have h2 : (k : Int) < (n : Int) := by omega
      have HO := hide hown
      clear hc1 hz hown
      go_wp2_with (at_builtin; refine wpList_append_own _ rfl _ _ 45 rfl w.heap.size 107 i0_Sh (.agg #[.int .i64 0, .int .i64 0]) 2 16 Try.underlying45 hi_Sh hz0_Sh hz1_Sh hz2_Sh rfl (by decide) _ _ _ rfl (HO.out.alloc _) ⟨wr.heap.size, 0, none⟩ 1 1 [.int .i64 z, .int .i64 z] rfl rfl ?c1 ?c2 ?c3 ?c4 ?c5 ?_)
      case c1 => exact news_at _ _ _
      case c2 => exact List.all_eq_true.1 rfl
      case c3 => unfold maxLen; omega
      case c4 => omega
      case c5 => (first | go_size | (simp; omega))
      intro v' w3 hown3 hg3 _
      obtain ⟨a3, c3, rfl⟩ := own_shape hown3
      obtain ⟨hB3, hs3⟩ := below_app hB HO.out (by omega) (by omega) hg3
      have HG3 := hide hg3; clear hg3
      go_wp2
      go_roundw
      case rel =>
        refine ⟨k + 1, _, _, by omega, by go_num, rfl, ?_, hB3⟩
        rw [take_snoc HZ.out, List.map_append, List.flatMap_append]
        simpa [newShare, shF] using hown3
      case measure => simp [intOf]; omega
    · obtain rfl : k = n := by omega
      rw [List.take_of_length_le (by rw [HA.out.1]; exact Nat.le_refl _)] at hown
      have HO := hide hown
      have hcc := own_caps hown
      have hc1 := hcc.1; have hc2 : c' ≤ 9223372036854775807 := hcc.2
      clear hown hcc
      cases hok : newOkB zs
      · have HE := hide (show newShares zs = [] by unfold newShares; rw [hok]; rfl)
        go_wp2_with (first | (go_at_call 82; refine (impl_SharesOk_is _ _ _ _ _ hok _ (isStructs_own shF_len (by omega) HO.out) (by omega)).mono ?_; rintro e w1 ⟨rfl, h1⟩; replace h1 : Below wr.heap.size wr w1 := bthen (by go_grown) h1 (by first | go_size | omega); obtain ⟨hc1, hf1⟩ := bcell h1))
        go_returns
        rw [hok]
        exact ⟨0, none, 0, rfl, by rw [HE.out]; exact World.ownsRow_nil _ _ _ _, by rw [HE.out]; rfl, by omega, bthen hB h1 (by omega)⟩
      · have HE := hide (show newShares zs = zs.map newShare by unfold newShares; rw [hok]; rfl)
        have HL := hide (newShares_le zs)
        go_wp2_with (first | (go_at_call 82; refine (impl_SharesOk_is _ _ _ _ _ hok _ (isStructs_own shF_len (by omega) HO.out) (by omega)).mono ?_; rintro e w1 ⟨rfl, h1⟩; replace h1 : Below wr.heap.size wr w1 := bthen (by go_grown) h1 (by first | go_size | omega); obtain ⟨hc1, hf1⟩ := bcell h1))
        go_returns
        rw [hok]
        refine ⟨k, _, _, rfl, by rw [HE.out]; exact own_below HO.out h1 (fun j hj => (HO.out.lt j hj).2), by rw [HE.out, List.length_map, HA.out.1], ?_, bthen hB h1 (by omega)⟩
        have := HL.out
        rw [HE.out, List.length_map, HA.out.1] at this
        exact this

theorem newOk_take {zs : List Int} {n k : Nat} (hn : zs.length = n) (hk : k = min n 5) : sharesOkB ((zs.take k).map newShare) = newOkB zs := by
  by_cases h : n ≤ 5
  · rw [List.take_of_length_le (by omega)]; rfl
  · have h5 : k = 5 := by omega
    subst h5
    unfold newOkB sharesOkB
    rw [btw_hi (show (4 : Int) < (((zs.take 5).map newShare).length : Int) by simp; omega), btw_hi (show (4 : Int) < ((zs.map newShare).length : Int) by simp; omega), Bool.and_false, Bool.and_false]
theorem newShares_take {zs : List Int} {n k : Nat} (hn : zs.length = n) (hk : k = min n 5) (h : newOkB zs = true) : newShares zs = (zs.take k).map newShare := by
  have hl := newShares_le zs
  unfold newShares at hl ⊢
  rw [if_pos h] at hl ⊢
  rw [List.length_map] at hl
  rw [List.take_of_length_le (by omega)]
theorem newShares_no (zs : List Int) (h : newOkB zs = false) : newShares zs = [] := by unfold newShares; rw [h]; rfl
set_option maxRecDepth 100000 in
set_option maxHeartbeats 1000000 in
theorem spec_SharesNew (a : Option Addr) (n c : Nat) (zs : List Int) (w : World) (ha : IsInts .i64 w a n c zs) (hs : n ≤ 1048576) :
    Calls Try.prog 30 #[.slice a n c] w (GotShares w (newShares zs) (newOkB zs)) := by
  obtain ⟨i0_Sh, hi_Sh, hz0_Sh, hz1_Sh, hz2_Sh⟩ := info_parts info_Sh
  have HA := hide ha
  have hc := ha.2.1
  clear ha
  go_enter Try.func30, Try.ntmps30
  go_wp2_with fail
  go_loopw [4, 5] (fun v i wr => ∃ (k : Nat) (a' : Option Addr) (c' : Nat), k ≤ n ∧ k ≤ 5 ∧ i = .int .i64 k ∧ v = .slice a' k c' ∧ wr.ownsRow w.heap.size 107 2 (.slice a' k c') k (((zs.take k).map newShare).flatMap shF) ∧ Below w.heap.size w wr) (fun _ i _ => n - (intOf i).toNat)
  case atStart => exact ⟨0, _, _, by omega, by omega, rfl, rfl, World.ownsRow_made w #[] 0 (Nat.le_refl _) (by decide) rfl, (by repeat' (first | (with_reducible exact Below.refl _ _) | (with_reducible assumption) | (with_reducible refine bdrawn ?_ _) | (with_reducible refine Below.alloc ?_ ?_ _) | (with_reducible refine Below.drew ?_) | (with_reducible refine Below.setCell ?_ ?_ _) | go_size))⟩
  case round =>
    obtain ⟨k, a', c', hk, hk5, rfl, rfl, hown, hB⟩ := hrel
    have hs1 := hB.size
    by_cases hlt : k < n ∧ k < 5
    · obtain ⟨hlt, hlt5⟩ := hlt
      obtain ⟨z, b1, o1, hz, rfl, hlb, hc1⟩ := HA.out.2.2.2.2.get (k := k) (by rw [HA.out.1]; exact hlt)
      have e1 := (hB.cell (p := ⟨b1, o1 + k, none⟩) hlb).trans hc1
      have HZ := hide hz
      have h1 : (0 : Int) ≤ (k : Int) := by omega
      have h2 : (k : Int) < (n : Int) := by omega
      have HO := hide hown
      clear hc1 hz hown
      go_wp2_with fail
      go_region_held3 (fun v => v.cell? ⟨b1, o1 + k, none⟩ = some (.int .i64 z)) (first | go_keep | (rw [hg3.cell_far _ (by go_size) (own_far HO.out (by omega))]; assumption)) ((refine step_append_lies _ (by rfl) _ _ _ (by rfl) (w.heap.size) 107 i0_Sh _ 2 16 Try.underlying45 hi_Sh hz0_Sh hz1_Sh hz2_Sh rfl (by omega) _ _ _ (by rfl) ((HO.out.alloc _).drew) ⟨wr.heap.size, 0, none⟩ 1 1 [.int .i64 z, .int .i64 z] (by rfl) (by rfl) (World.news_of_block (cs := #[.int .i64 z, .int .i64 z]) (t := 107) (fr := (0, 0)) (heap_alloc_new _ _)) (List.all_eq_true.1 rfl) (by omega) (by unfold maxLen; omega) (by omega) (by first | go_size | (simp; omega)) (wr.heap.size + 1) (by simp) ?_; intro g3 c3 w3 hown3 hg3 hat3 hlt3))
      obtain ⟨hB3, hs3⟩ := below_appr hB HO.out (by omega) (by omega) hg3
      have HG3 := hide hg3; clear hg3
      go_wp2
      go_roundw
      case rel =>
        refine ⟨k + 1, _, _, by omega, by omega, by go_num, rfl, ?_, hB3⟩
        rw [take_snoc HZ.out, List.map_append, List.flatMap_append]
        simpa [newShare, shF] using hown3
      case measure => simp [intOf]; omega
    · have hk' : k = min n 5 := by omega
      have HK := hide hk'
      clear hk'
      have HO := hide hown
      have hcc := own_caps hown
      have hc1 := hcc.1; have hc2 : c' ≤ 9223372036854775807 := hcc.2
      clear hown hcc
      have HT := hide (newOk_take HA.out.1 HK.out)
      have HE0 := hide (newShares_no zs)
      cases hok : newOkB zs
      all_goals
        by_cases hkn : k < n
        all_goals
          go_wp2_with (first | (go_at_call 81; refine (spec_SharesOk_is _ _ _ _ _ (HT.out.trans hok) _ (isStructs_own shF_len (by omega) HO.out) (by omega)).mono ?_; rintro e w1 ⟨rfl, h1⟩; replace h1 : Below wr.heap.size wr w1 := bthen (by go_grown) h1 (by first | go_size | omega); obtain ⟨hc1, hf1⟩ := bcell h1))
      · go_returns
        rw [hok]
        exact ⟨0, _, 0, rfl, by rw [HE0.out hok]; exact World.ownsRow_made w1 #[] 0 (by have := h1.size; omega) (by decide) rfl, by rw [HE0.out hok]; rfl, by omega, by have := bthen hB h1 (by omega); have := this.size; (repeat' (first | (with_reducible exact Below.refl _ _) | (with_reducible assumption) | (with_reducible refine bdrawn ?_ _) | (with_reducible refine Below.alloc ?_ ?_ _) | (with_reducible refine Below.drew ?_) | (with_reducible refine Below.setCell ?_ ?_ _) | go_size))⟩
      · go_returns
        rw [hok]
        exact ⟨0, _, 0, rfl, by rw [HE0.out hok]; exact World.ownsRow_made w1 #[] 0 (by have := h1.size; omega) (by decide) rfl, by rw [HE0.out hok]; rfl, by omega, by have := bthen hB h1 (by omega); have := this.size; (repeat' (first | (with_reducible exact Below.refl _ _) | (with_reducible assumption) | (with_reducible refine bdrawn ?_ _) | (with_reducible refine Below.alloc ?_ ?_ _) | (with_reducible refine Below.drew ?_) | (with_reducible refine Below.setCell ?_ ?_ _) | go_size))⟩
      all_goals
        go_returns
        rw [hok]
        have hE := newShares_take HA.out.1 HK.out hok
        have hL := newShares_le zs
        rw [hE, List.length_map, List.length_take, HA.out.1] at hL
        exact ⟨k, _, _, rfl, by rw [hE]; exact own_below HO.out h1 (fun j hj => (HO.out.lt j hj).2), by rw [hE, List.length_map, List.length_take, HA.out.1]; omega, by omega, bthen hB h1 (by omega)⟩
end Go.Proofs.Ytlaoeaecbdmebaa
