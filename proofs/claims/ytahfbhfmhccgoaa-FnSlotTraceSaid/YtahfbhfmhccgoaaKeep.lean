/- The requests of one tenant. -/
import Derived.Test.YtahfbhfmhccgoaaRequest
set_option linter.unusedSimpArgs false
set_option linter.unusedVariables false
namespace Go.Proofs.Ytahfbhfmhccgoaa
open Go.RowKit Go.ChangeShapes Go.WideShapes Go.ChangeAt Go.Joins Go.Deep
open Go.ChangeMaps (open_string shut_string)
def keepT (es : List Rq) (t : Int) : List Rq := es.filter fun e => e.tenant == t
theorem keep_no {es : List Rq} {t : Int} {k : Nat} {e : Rq} (he : es[k]? = some e) (h : (e.tenant == t) = false) : keepT (es.take (k + 1)) t = keepT (es.take k) t := by
  unfold keepT
  rw [take_snoc he, List.filter_append]; simp [h]
theorem keep_yes {es : List Rq} {t : Int} {k : Nat} {e : Rq} (he : es[k]? = some e) (h : (e.tenant == t) = true) : keepT (es.take (k + 1)) t = keepT (es.take k) t ++ [e] := by
  unfold keepT
  rw [take_snoc he, List.filter_append]; simp [h]
theorem keep_le (es : List Rq) (t : Int) (k : Nat) : (keepT (es.take k) t).length ≤ k := by
  unfold keepT
  have := List.length_filter_le (fun e : Rq => e.tenant == t) (es.take k)
  have := List.length_take_le k es
  omega

set_option maxRecDepth 100000 in
set_option maxHeartbeats 2000000 in
theorem impl_KeepTenant (a : Option Addr) (n c : Nat) (es : List Rq) (t : Int) (N : Nat) (w : World) (ha : IsStructs rqF 6 w a n c es) (hs : n ≤ 1048576) (hN : (keepT es t).length = N) :
    Calls Try.prog 29 #[.slice a n c, .int .i64 t] w (Fresh w 41 6 N ((keepT es t).flatMap rqF)) := by
  obtain ⟨i0_Rq, hi_Rq, hz0_Rq, hz1_Rq, hz2_Rq⟩ := info_parts info_Rq
  have HA := hide ha
  have HN := hide hN
  have hc := ha.2.1
  clear ha hN
  go_enter Try.func29, Try.ntmps29
  go_wp2_with fail
  go_loopw [5, 11] (fun v i wr => ∃ (k m : Nat) (a' : Option Addr) (c' : Nat), k ≤ n ∧ i = .int .i64 k ∧ v = .slice a' m c' ∧ m ≤ k ∧ Hid ((keepT (es.take k) t).length = m) ∧ wr.ownsRow w.heap.size 41 6 (.slice a' m c') m ((keepT (es.take k) t).flatMap rqF) ∧ Below w.heap.size w wr) (fun _ i _ => n - (intOf i).toNat)
  case atStart => exact ⟨0, 0, _, _, by omega, rfl, rfl, by omega, hide rfl, World.ownsRow_made w #[] 0 (Nat.le_refl _) (by decide) rfl, (by repeat' (first | (with_reducible exact Below.refl _ _) | (with_reducible assumption) | (with_reducible refine bdrawn ?_ _) | (with_reducible refine Below.alloc ?_ ?_ _) | (with_reducible refine Below.drew ?_) | (with_reducible refine Below.setCell ?_ ?_ _) | go_size))⟩
  case round =>
    obtain ⟨k, m, a', c', hk, rfl, rfl, hmk, HM, hown, hB⟩ := hrel
    by_cases hlt : k < n
    · obtain ⟨e, b1, o1, hh_e, rfl, hlb, hcell⟩ := HA.out.get rqF_len (by omega) (show k < n by omega)
      have e0 : wr.cell? ⟨b1, o1 + k * 6, none⟩ = some (.int .i64 e.id) := (hB.cell (p := ⟨b1, o1 + (k * 6 + 0), none⟩) hlb).trans (hcell 0 _ rfl)
      have e1 : wr.cell? ⟨b1, o1 + k * 6 + 1, none⟩ = some (.int .i64 e.tenant) := (hB.cell (p := ⟨b1, o1 + (k * 6 + 1), none⟩) hlb).trans (hcell 1 _ rfl)
      have e2 : wr.cell? ⟨b1, o1 + k * 6 + 2, none⟩ = some (.int .i64 e.line) := (hB.cell (p := ⟨b1, o1 + (k * 6 + 2), none⟩) hlb).trans (hcell 2 _ rfl)
      have e3 : wr.cell? ⟨b1, o1 + k * 6 + 3, none⟩ = some (.bool e.write) := (hB.cell (p := ⟨b1, o1 + (k * 6 + 3), none⟩) hlb).trans (hcell 3 _ rfl)
      have e4 : wr.cell? ⟨b1, o1 + k * 6 + 4, none⟩ = some (.int .i64 e.data) := (hB.cell (p := ⟨b1, o1 + (k * 6 + 4), none⟩) hlb).trans (hcell 4 _ rfl)
      have e5 : wr.cell? ⟨b1, o1 + k * 6 + 5, none⟩ = some (.int .i64 e.tm) := (hB.cell (p := ⟨b1, o1 + (k * 6 + 5), none⟩) hlb).trans (hcell 5 _ rfl)
      have HE_e := hide hh_e
      have sz_e := hB.size
      have lt_b1 : b1 < wr.heap.size := (by have := hB.size; omega)
      have lw_b1 := hlb
      have i0_e : (0 : Int) ≤ (k : Int) := by omega
      have i1_e : (k : Int) < (n : Int) := by omega
      clear hcell hlb hh_e
      have HO := hide hown
      clear hown
      cases q1 : (e.tenant == t)
      · go_wp2_with fail
        go_roundw
        case rel => exact ⟨k + 1, m, _, _, by omega, by go_num, rfl, by omega, hide (by rw [keep_no HE_e.out q1]; exact HM.out), by rw [keep_no HE_e.out q1]; exact HO.out.alloc _, (by repeat' (first | (with_reducible exact Below.refl _ _) | (with_reducible assumption) | (with_reducible refine bdrawn ?_ _) | (with_reducible refine Below.alloc ?_ ?_ _) | (with_reducible refine Below.drew ?_) | (with_reducible refine Below.setCell ?_ ?_ _) | go_size))⟩
        case measure => simp [intOf]; omega
      · have HO1 := hide (HO.out.alloc (.cells #[.int .i64 e.id, .int .i64 e.tenant, .int .i64 e.line, .bool e.write, .int .i64 e.data, .int .i64 e.tm] 41))
        have hB1 : Below w.heap.size w (wr.alloc (.cells #[.int .i64 e.id, .int .i64 e.tenant, .int .i64 e.line, .bool e.write, .int .i64 e.data, .int .i64 e.tm] 41)) := (by repeat' (first | (with_reducible exact Below.refl _ _) | (with_reducible assumption) | (with_reducible refine bdrawn ?_ _) | (with_reducible refine Below.alloc ?_ ?_ _) | (with_reducible refine Below.drew ?_) | (with_reducible refine Below.setCell ?_ ?_ _) | go_size))
        have hB2 := hB1.size
        go_wp2_with (at_builtin; refine wpList_append_own _ rfl _ _ 36 rfl w.heap.size 41 i0_Rq (.agg #[.int .i64 0, .int .i64 0, .int .i64 0, .bool false, .int .i64 0, .int .i64 0]) 6 48 Try.underlying36 hi_Rq hz0_Rq hz1_Rq hz2_Rq rfl (by decide) _ _ _ rfl (HO1.out.alloc _) ⟨wr.heap.size + 1, 0, none⟩ 1 1 [.int .i64 e.id, .int .i64 e.tenant, .int .i64 e.line, .bool e.write, .int .i64 e.data, .int .i64 e.tm] rfl rfl ?c1p ?c2p ?c3p ?c4p ?c5p ?_)
        (try case c1p => exact news_at_of _ _ _ (by go_size))
        (try case c2p => first | exact List.all_eq_true.1 rfl | rfl)
        (try case c3p => (unfold maxLen; omega))
        (try case c4p => omega)
        (try case c5p => (first | go_size | (simp; omega)))
        intro v' wp hownp hgp _
        obtain ⟨ap, cp, rfl⟩ := own_shape hownp
        obtain ⟨hBp, hsp⟩ := below_app hB1 HO1.out (by omega) (by omega) hgp
        have HGp := hide hgp; clear hgp
        go_wp2
        go_roundw
        case rel => exact ⟨k + 1, m + 1, _, _, by omega, by go_num, rfl, by omega, hide (by rw [keep_yes HE_e.out q1, List.length_append, HM.out]; rfl), by rw [keep_yes HE_e.out q1, List.flatMap_append]; simpa [rqF] using hownp, hBp⟩
        case measure => simp [intOf]; omega
    · obtain rfl : k = n := by omega
      rw [List.take_of_length_le (by rw [HA.out.1]; exact Nat.le_refl _)] at hown HM
      obtain rfl : N = m := by rw [← HN.out, HM.out]
      go_wp2
      go_ret
      exact ⟨_, _, rfl, hown, hB⟩

set_option maxRecDepth 100000 in
set_option maxHeartbeats 2000000 in
theorem spec_KeepTenant (a : Option Addr) (n c : Nat) (es : List Rq) (t : Int) (N : Nat) (w : World) (ha : IsStructs rqF 6 w a n c es) (hs : n ≤ 1048576) (hN : (keepT es t).length = N) :
    Calls Try.prog 36 #[.slice a n c, .int .i64 t] w (Fresh w 41 6 N ((keepT es t).flatMap rqF)) := by
  obtain ⟨i0_Rq, hi_Rq, hz0_Rq, hz1_Rq, hz2_Rq⟩ := info_parts info_Rq
  have HA := hide ha
  have HN := hide hN
  have hc := ha.2.1
  clear ha hN
  go_enter Try.func36, Try.ntmps36
  go_wp2_with fail
  go_loopw [5, 6] (fun v i wr => ∃ (k m : Nat) (a' : Option Addr) (c' : Nat), k ≤ n ∧ i = .int .i64 k ∧ v = .slice a' m c' ∧ m ≤ k ∧ Hid ((keepT (es.take k) t).length = m) ∧ wr.ownsRow w.heap.size 41 6 (.slice a' m c') m ((keepT (es.take k) t).flatMap rqF) ∧ Below w.heap.size w wr) (fun _ i _ => n - (intOf i).toNat)
  case atStart => exact ⟨0, 0, _, _, by omega, rfl, rfl, by omega, hide rfl, World.ownsRow_made w #[] 0 (Nat.le_refl _) (by decide) rfl, (by repeat' (first | (with_reducible exact Below.refl _ _) | (with_reducible assumption) | (with_reducible refine bdrawn ?_ _) | (with_reducible refine Below.alloc ?_ ?_ _) | (with_reducible refine Below.drew ?_) | (with_reducible refine Below.setCell ?_ ?_ _) | go_size))⟩
  case round =>
    obtain ⟨k, m, a', c', hk, rfl, rfl, hmk, HM, hown, hB⟩ := hrel
    by_cases hlt : k < n
    · obtain ⟨e, b1, o1, hh_e, rfl, hlb, hcell⟩ := HA.out.get rqF_len (by omega) (show k < n by omega)
      have e0 : wr.cell? ⟨b1, o1 + k * 6, none⟩ = some (.int .i64 e.id) := (hB.cell (p := ⟨b1, o1 + (k * 6 + 0), none⟩) hlb).trans (hcell 0 _ rfl)
      have e1 : wr.cell? ⟨b1, o1 + k * 6 + 1, none⟩ = some (.int .i64 e.tenant) := (hB.cell (p := ⟨b1, o1 + (k * 6 + 1), none⟩) hlb).trans (hcell 1 _ rfl)
      have e2 : wr.cell? ⟨b1, o1 + k * 6 + 2, none⟩ = some (.int .i64 e.line) := (hB.cell (p := ⟨b1, o1 + (k * 6 + 2), none⟩) hlb).trans (hcell 2 _ rfl)
      have e3 : wr.cell? ⟨b1, o1 + k * 6 + 3, none⟩ = some (.bool e.write) := (hB.cell (p := ⟨b1, o1 + (k * 6 + 3), none⟩) hlb).trans (hcell 3 _ rfl)
      have e4 : wr.cell? ⟨b1, o1 + k * 6 + 4, none⟩ = some (.int .i64 e.data) := (hB.cell (p := ⟨b1, o1 + (k * 6 + 4), none⟩) hlb).trans (hcell 4 _ rfl)
      have e5 : wr.cell? ⟨b1, o1 + k * 6 + 5, none⟩ = some (.int .i64 e.tm) := (hB.cell (p := ⟨b1, o1 + (k * 6 + 5), none⟩) hlb).trans (hcell 5 _ rfl)
      have HE_e := hide hh_e
      have sz_e := hB.size
      have lt_b1 : b1 < wr.heap.size := (by have := hB.size; omega)
      have lw_b1 := hlb
      have i0_e : (0 : Int) ≤ (k : Int) := by omega
      have i1_e : (k : Int) < (n : Int) := by omega
      clear hcell hlb hh_e
      have HO := hide hown
      clear hown
      cases q1 : (e.tenant == t)
      · go_wp2_with fail
        go_roundw
        case rel => exact ⟨k + 1, m, _, _, by omega, by go_num, rfl, by omega, hide (by rw [keep_no HE_e.out q1]; exact HM.out), by rw [keep_no HE_e.out q1]; exact HO.out, (by repeat' (first | (with_reducible exact Below.refl _ _) | (with_reducible assumption) | (with_reducible refine bdrawn ?_ _) | (with_reducible refine Below.alloc ?_ ?_ _) | (with_reducible refine Below.drew ?_) | (with_reducible refine Below.setCell ?_ ?_ _) | go_size))⟩
        case measure => simp [intOf]; omega
      · go_wp2_with (at_builtin; refine wpList_append_own _ rfl _ _ 36 rfl w.heap.size 41 i0_Rq (.agg #[.int .i64 0, .int .i64 0, .int .i64 0, .bool false, .int .i64 0, .int .i64 0]) 6 48 Try.underlying36 hi_Rq hz0_Rq hz1_Rq hz2_Rq rfl (by decide) _ _ _ rfl (HO.out.alloc _) ⟨wr.heap.size, 0, none⟩ 1 1 [.int .i64 e.id, .int .i64 e.tenant, .int .i64 e.line, .bool e.write, .int .i64 e.data, .int .i64 e.tm] rfl rfl ?c1p ?c2p ?c3p ?c4p ?c5p ?_)
        (try case c1p => exact news_at_of _ _ _ (by go_size))
        (try case c2p => first | exact List.all_eq_true.1 rfl | rfl)
        (try case c3p => (unfold maxLen; omega))
        (try case c4p => omega)
        (try case c5p => (first | go_size | (simp; omega)))
        intro v' wp hownp hgp _
        obtain ⟨ap, cp, rfl⟩ := own_shape hownp
        obtain ⟨hBp, hsp⟩ := below_app hB HO.out (by omega) (by omega) hgp
        have HGp := hide hgp; clear hgp
        go_wp2
        go_roundw
        case rel => exact ⟨k + 1, m + 1, _, _, by omega, by go_num, rfl, by omega, hide (by rw [keep_yes HE_e.out q1, List.length_append, HM.out]; rfl), by rw [keep_yes HE_e.out q1, List.flatMap_append]; simpa [rqF] using hownp, hBp⟩
        case measure => simp [intOf]; omega
    · obtain rfl : k = n := by omega
      rw [List.take_of_length_le (by rw [HA.out.1]; exact Nat.le_refl _)] at hown HM
      obtain rfl : N = m := by rw [← HN.out, HM.out]
      go_wp2
      go_ret
      exact ⟨_, _, rfl, hown, hB⟩
end Go.Proofs.Ytahfbhfmhccgoaa
