/- A request put into the queue by the reference: some list, with some answer. -/
import Derived.Test.YtahfbhfmhccgoaaQueue
set_option linter.unusedSimpArgs false
set_option linter.unusedVariables false
namespace Go.Proofs.Ytahfbhfmhccgoaa
open Go.RowKit Go.ChangeShapes Go.WideShapes Go.ChangeAt Go.Joins Go.Deep
open Go.ChangeMaps (open_string shut_string)
def GotQueue (w : World) (N : Nat) (e : Ending) (w' : World) : Prop :=
  ∃ (a : Option Addr) (m c : Nat) (es : List Rq) (b : Bool), m ≤ N ∧ e = .returned (.tuple #[.slice a m c, .bool b]) ∧ w'.ownsRow w.heap.size 41 6 (.slice a m c) m (es.flatMap rqF) ∧ es.length = m ∧ Below w.heap.size w w'
set_option maxRecDepth 100000 in
set_option maxHeartbeats 8000000 in
theorem spec_QueueAdd (lines : Int) (a : Option Addr) (n c : Nat) (es : List Rq) (r : Rq) (w : World) (ha : IsStructs rqF 6 w a n c es) (hs : n ≤ 1000) :
    Calls Try.prog 142 #[.int .i64 lines, .slice a n c, .agg #[.int .i64 r.id, .int .i64 r.tenant, .int .i64 r.line, .bool r.write, .int .i64 r.data, .int .i64 r.tm]] w (GotQueue w (n + 1)) := by
  obtain ⟨i0_Rq, hi_Rq, hz0_Rq, hz1_Rq, hz2_Rq⟩ := info_parts info_Rq
  have HA := hide ha
  have HN := hide ha.1
  have hc := ha.2.1; have hcm : c ≤ 9223372036854775807 := ha.2.2.1
  clear ha
  go_enter Try.func142, Try.ntmps142
  go_wp2_with fail
  go_loopw [8, 9, 10] (fun vo vp vi wr => ∃ (k m : Nat) (ao : Option Addr) (co : Nat) (xs : List Rq) (pv : Bool), k ≤ n ∧ vi = .int .i64 k ∧ vp = .bool pv ∧ vo = .slice ao m co ∧ m ≤ k + pv.toNat ∧ Hid (xs.length = m) ∧ Hid (wr.ownsRow (w.heap.size + 1) 41 6 (.slice ao m co) m (xs.flatMap rqF)) ∧ Below w.heap.size w wr ∧ w.heap.size < wr.heap.size ∧ Hid (wr.heap[w.heap.size]? = some (.cells #[.int .i64 r.id, .int .i64 r.tenant, .int .i64 r.line, .bool r.write, .int .i64 r.data, .int .i64 r.tm] 41 (0, 0)))) (fun _ _ vi _ => n - (intOf vi).toNat)
  case atStart => exact ⟨0, 0, _, _, [], false, by omega, rfl, rfl, rfl, by simp, hide rfl, hide (own_made_at (by simp) (by simp)), (by repeat' (first | (with_reducible exact Below.refl _ _) | (with_reducible assumption) | (with_reducible refine bdrawn ?_ _) | (with_reducible refine Below.alloc ?_ ?_ _) | (with_reducible refine Below.drew ?_) | (with_reducible refine Below.setCell ?_ ?_ _) | go_size)), by simp; omega, hide (by rw [alloc_lt _ _ _ (by simp), alloc_at _ _ _ rfl])⟩
  case round =>
    obtain ⟨k, m, ao, co, xs, pv, hk, rfl, rfl, rfl, hm, HL, HO, hB, hsz, HE⟩ := hrel
    have hpv : pv.toNat ≤ 1 := by cases pv <;> simp
    by_cases hlt : k < n
    · obtain ⟨e, b1, o1, hh_e, rfl, hlb, hcell⟩ := HA.out.get rqF_len (by omega) (show k < n by omega)
      have e0 : wr.cell? ⟨b1, o1 + k * 6, none⟩ = some (.int .i64 e.id) := (hB.cell (p := ⟨b1, o1 + (k * 6 + 0), none⟩) hlb).trans (hcell 0 _ rfl)
      have e1 : wr.cell? ⟨b1, o1 + k * 6 + 1, none⟩ = some (.int .i64 e.tenant) := (hB.cell (p := ⟨b1, o1 + (k * 6 + 1), none⟩) hlb).trans (hcell 1 _ rfl)
      have e2 : wr.cell? ⟨b1, o1 + k * 6 + 2, none⟩ = some (.int .i64 e.line) := (hB.cell (p := ⟨b1, o1 + (k * 6 + 2), none⟩) hlb).trans (hcell 2 _ rfl)
      have e3 : wr.cell? ⟨b1, o1 + k * 6 + 3, none⟩ = some (.bool e.write) := (hB.cell (p := ⟨b1, o1 + (k * 6 + 3), none⟩) hlb).trans (hcell 3 _ rfl)
      have e4 : wr.cell? ⟨b1, o1 + k * 6 + 4, none⟩ = some (.int .i64 e.data) := (hB.cell (p := ⟨b1, o1 + (k * 6 + 4), none⟩) hlb).trans (hcell 4 _ rfl)
      have e5 : wr.cell? ⟨b1, o1 + k * 6 + 5, none⟩ = some (.int .i64 e.tm) := (hB.cell (p := ⟨b1, o1 + (k * 6 + 5), none⟩) hlb).trans (hcell 5 _ rfl)
      have HE_e := hide hh_e
      have sz_e := hB.size
      have lt_b1 : b1 < wr.heap.size := (by have := hB.size; omega)
      have lw_b1 := hlb
      have i0_e : (0 : Int) ≤ (k : Int) := by omega
      have i1_e : (k : Int) < (n : Int) := by omega
      clear hcell hlb hh_e
      cases pv
      · have hm0 : m ≤ k := by simpa using hm
        clear hm hpv
        have r0 := cell_blk HE.out 0
        have r1 := cell_blk HE.out 1
        have r2 := cell_blk HE.out 2
        have r3 := cell_blk HE.out 3
        have r4 := cell_blk HE.out 4
        have r5 := cell_blk HE.out 5
        cases hv : befB r e
        · go_wp2_with fail
          go_region_held3 (fun v => v.cell? ⟨w.heap.size, 0, none⟩ = some (.int .i64 r.id) ∧ v.cell? ⟨w.heap.size, 1, none⟩ = some (.int .i64 r.tenant) ∧ v.cell? ⟨w.heap.size, 2, none⟩ = some (.int .i64 r.line) ∧ v.cell? ⟨w.heap.size, 3, none⟩ = some (.bool r.write) ∧ v.cell? ⟨w.heap.size, 4, none⟩ = some (.int .i64 r.data) ∧ v.cell? ⟨w.heap.size, 5, none⟩ = some (.int .i64 r.tm) ∧ v.cell? ⟨b1, o1 + k * 6, none⟩ = some (.int .i64 e.id) ∧ v.cell? ⟨b1, o1 + k * 6 + 1, none⟩ = some (.int .i64 e.tenant) ∧ v.cell? ⟨b1, o1 + k * 6 + 2, none⟩ = some (.int .i64 e.line) ∧ v.cell? ⟨b1, o1 + k * 6 + 3, none⟩ = some (.bool e.write) ∧ v.cell? ⟨b1, o1 + k * 6 + 4, none⟩ = some (.int .i64 e.data) ∧ v.cell? ⟨b1, o1 + k * 6 + 5, none⟩ = some (.int .i64 e.tm)) (go_keep) (first | (go_at_call 126; refine (spec_l19Before_is r e _ hv _).mono ?_; rintro e w1 ⟨rfl, h1⟩; (try (have hz0 : wr.heap.size < w1.heap.size := (by have := h1.size; (try simp at this); omega); have hl0 := (fun o => (bcell h1).1 (wr.heap.size) o (by go_size)); have hv0 := (fun o => (bcell h1).2 (wr.heap.size) o (by go_size)))); replace h1 : Below wr.heap.size wr w1 := bthen (by go_grown) h1 (by first | go_size | omega); obtain ⟨hc1, hf1⟩ := bcell h1; have hB2 : Below w.heap.size w w1 := bthen hB h1 (by omega); have hs1 := h1.size; have HO1 := hide (own_below HO.out h1 (fun q hq => (HO.out.lt q hq).2)); have HE1 := hide ((h1.block _ hsz).trans HE.out)))
          have lt1 : w.heap.size < w1.heap.size := by omega
          have e0 := (h1.cell (p := ⟨b1, o1 + k * 6, none⟩) lt_b1).trans e0; have e1 := (h1.cell (p := ⟨b1, o1 + k * 6 + 1, none⟩) lt_b1).trans e1; have e2 := (h1.cell (p := ⟨b1, o1 + k * 6 + 2, none⟩) lt_b1).trans e2; have e3 := (h1.cell (p := ⟨b1, o1 + k * 6 + 3, none⟩) lt_b1).trans e3; have e4 := (h1.cell (p := ⟨b1, o1 + k * 6 + 4, none⟩) lt_b1).trans e4; have e5 := (h1.cell (p := ⟨b1, o1 + k * 6 + 5, none⟩) lt_b1).trans e5
          clear hc1 hf1
          go_wp2_with (at_builtin; refine wpList_append_own _ rfl _ _ 36 rfl (w.heap.size + 1) 41 i0_Rq (.agg #[.int .i64 0, .int .i64 0, .int .i64 0, .bool false, .int .i64 0, .int .i64 0]) 6 48 Try.underlying36 hi_Rq hz0_Rq hz1_Rq hz2_Rq rfl (by decide) _ _ _ rfl (HO1.out.alloc _) ⟨w1.heap.size, 0, none⟩ 1 1 [.int .i64 e.id, .int .i64 e.tenant, .int .i64 e.line, .bool e.write, .int .i64 e.data, .int .i64 e.tm] rfl rfl ?c1p ?c2p ?c3p ?c4p ?c5p ?_)
          (try case c1p => exact news_at_of _ _ _ (by go_size))
          (try case c2p => first | exact List.all_eq_true.1 rfl | rfl)
          (try case c3p => (unfold maxLen; omega))
          (try case c4p => omega)
          (try case c5p => (first | go_size | (simp; omega)))
          intro v' wp hownp hgp _
          obtain ⟨ap, cp, rfl⟩ := own_shape hownp
          obtain ⟨hBp, hsp⟩ := below_app hB2 HO1.out (by omega) (by omega) hgp
          have HGp := hide hgp; clear hgp
          have HEp := hide (app_block HO1.out HGp.out (by omega) (by omega) HE1.out)
          have HOp := hide hownp
          clear hownp HGp
          go_wp2_with fail
          go_roundw
          case rel => exact ⟨k + 1, m + 1, _, _, xs ++ [e], false, by omega, by go_num, rfl, rfl, by simp; omega, hide (by simp [HL.out]), hide (by simpa [rqF] using HOp.out), hBp, by omega, HEp⟩
          case measure => simp [intOf]; omega
        · go_wp2_with fail
          go_region_held3 (fun v => v.cell? ⟨w.heap.size, 0, none⟩ = some (.int .i64 r.id) ∧ v.cell? ⟨w.heap.size, 1, none⟩ = some (.int .i64 r.tenant) ∧ v.cell? ⟨w.heap.size, 2, none⟩ = some (.int .i64 r.line) ∧ v.cell? ⟨w.heap.size, 3, none⟩ = some (.bool r.write) ∧ v.cell? ⟨w.heap.size, 4, none⟩ = some (.int .i64 r.data) ∧ v.cell? ⟨w.heap.size, 5, none⟩ = some (.int .i64 r.tm) ∧ v.cell? ⟨b1, o1 + k * 6, none⟩ = some (.int .i64 e.id) ∧ v.cell? ⟨b1, o1 + k * 6 + 1, none⟩ = some (.int .i64 e.tenant) ∧ v.cell? ⟨b1, o1 + k * 6 + 2, none⟩ = some (.int .i64 e.line) ∧ v.cell? ⟨b1, o1 + k * 6 + 3, none⟩ = some (.bool e.write) ∧ v.cell? ⟨b1, o1 + k * 6 + 4, none⟩ = some (.int .i64 e.data) ∧ v.cell? ⟨b1, o1 + k * 6 + 5, none⟩ = some (.int .i64 e.tm)) (go_keep) (first | (go_at_call 126; refine (spec_l19Before_is r e _ hv _).mono ?_; rintro e w1 ⟨rfl, h1⟩; (try (have hz0 : wr.heap.size < w1.heap.size := (by have := h1.size; (try simp at this); omega); have hl0 := (fun o => (bcell h1).1 (wr.heap.size) o (by go_size)); have hv0 := (fun o => (bcell h1).2 (wr.heap.size) o (by go_size)))); replace h1 : Below wr.heap.size wr w1 := bthen (by go_grown) h1 (by first | go_size | omega); obtain ⟨hc1, hf1⟩ := bcell h1; have hB2 : Below w.heap.size w w1 := bthen hB h1 (by omega); have hs1 := h1.size; have HO1 := hide (own_below HO.out h1 (fun q hq => (HO.out.lt q hq).2)); have HE1 := hide ((h1.block _ hsz).trans HE.out)))
          have lt1 : w.heap.size < w1.heap.size := by omega
          have e0 := (h1.cell (p := ⟨b1, o1 + k * 6, none⟩) lt_b1).trans e0; have e1 := (h1.cell (p := ⟨b1, o1 + k * 6 + 1, none⟩) lt_b1).trans e1; have e2 := (h1.cell (p := ⟨b1, o1 + k * 6 + 2, none⟩) lt_b1).trans e2; have e3 := (h1.cell (p := ⟨b1, o1 + k * 6 + 3, none⟩) lt_b1).trans e3; have e4 := (h1.cell (p := ⟨b1, o1 + k * 6 + 4, none⟩) lt_b1).trans e4; have e5 := (h1.cell (p := ⟨b1, o1 + k * 6 + 5, none⟩) lt_b1).trans e5
          have HEI := hide (And.intro e0 (And.intro e1 (And.intro e2 (And.intro e3 (And.intro e4 e5)))))
          clear hc1 hf1
          have r0 := cell_blk HE1.out 0; have r1 := cell_blk HE1.out 1; have r2 := cell_blk HE1.out 2; have r3 := cell_blk HE1.out 3; have r4 := cell_blk HE1.out 4; have r5 := cell_blk HE1.out 5
          go_wp2_with (at_builtin; refine wpList_append_own _ rfl _ _ 36 rfl (w.heap.size + 1) 41 i0_Rq (.agg #[.int .i64 0, .int .i64 0, .int .i64 0, .bool false, .int .i64 0, .int .i64 0]) 6 48 Try.underlying36 hi_Rq hz0_Rq hz1_Rq hz2_Rq rfl (by decide) _ _ _ rfl (HO1.out.alloc _) ⟨w1.heap.size, 0, none⟩ 1 1 [.int .i64 r.id, .int .i64 r.tenant, .int .i64 r.line, .bool r.write, .int .i64 r.data, .int .i64 r.tm] rfl rfl ?c1p ?c2p ?c3p ?c4p ?c5p ?_)
          (try case c1p => exact news_at_of _ _ _ (by go_size))
          (try case c2p => first | exact List.all_eq_true.1 rfl | rfl)
          (try case c3p => (unfold maxLen; omega))
          (try case c4p => omega)
          (try case c5p => (first | go_size | (simp; omega)))
          intro v' wp hownp hgp _
          obtain ⟨ap, cp, rfl⟩ := own_shape hownp
          obtain ⟨hBp, hsp⟩ := below_app hB2 HO1.out (by omega) (by omega) hgp
          have HGp := hide hgp; clear hgp
          have HEp := hide (app_block HO1.out HGp.out (by omega) (by omega) HE1.out)
          have HOp := hide hownp
          have hfar := fun (o : Nat) (u : Value) (h : w1.cell? ⟨b1, o, none⟩ = some u) => (World.cell?_of_block (a := ⟨b1, o, none⟩) (app_block (k := b1) HO1.out HGp.out (by omega) (by omega) rfl)).trans h
          have e0 := hfar _ _ HEI.out.1; have e1 := hfar _ _ HEI.out.2.1; have e2 := hfar _ _ HEI.out.2.2.1; have e3 := hfar _ _ HEI.out.2.2.2.1; have e4 := hfar _ _ HEI.out.2.2.2.2.1; have e5 := hfar _ _ HEI.out.2.2.2.2.2
          clear hownp HGp hfar
          go_wp2_with (at_builtin; refine wpList_append_own _ rfl _ _ 36 rfl (w.heap.size + 1) 41 i0_Rq (.agg #[.int .i64 0, .int .i64 0, .int .i64 0, .bool false, .int .i64 0, .int .i64 0]) 6 48 Try.underlying36 hi_Rq hz0_Rq hz1_Rq hz2_Rq rfl (by decide) _ _ _ rfl (HOp.out.alloc _) ⟨wp.heap.size, 0, none⟩ 1 1 [.int .i64 e.id, .int .i64 e.tenant, .int .i64 e.line, .bool e.write, .int .i64 e.data, .int .i64 e.tm] rfl rfl ?c1q ?c2q ?c3q ?c4q ?c5q ?_)
          (try case c1q => exact news_at_of _ _ _ (by go_size))
          (try case c2q => first | exact List.all_eq_true.1 rfl | rfl)
          (try case c3q => (unfold maxLen; omega))
          (try case c4q => omega)
          (try case c5q => (first | go_size | (simp; omega)))
          intro v' wq hownq hgq _
          obtain ⟨aq, cq, rfl⟩ := own_shape hownq
          obtain ⟨hBq, hsq⟩ := below_app hBp HOp.out (by omega) (by omega) hgq
          have HGq := hide hgq; clear hgq
          have HEq := hide (app_block HOp.out HGq.out (by omega) (by omega) HEp.out)
          have HOq := hide hownq
          clear hownq HGq
          go_wp2_with fail
          go_roundw
          case rel => exact ⟨k + 1, m + 1 + 1, _, _, xs ++ [r] ++ [e], true, by omega, by go_num, rfl, rfl, by simp; omega, hide (by simp [HL.out]), hide (by simpa [rqF] using HOq.out), hBq, by omega, HEq⟩
          case measure => simp [intOf]; omega
      · have hm0 : m ≤ k + 1 := by simpa using hm
        clear hm hpv
        go_wp2_with fail
        go_quiet (fail)
        have hBZ := bdrawn hB nq
        have HOZ := hide (own_below HO.out (bdrawn (Below.refl wr.heap.size wr) nq) (fun q hq => (HO.out.lt q hq).2))
        have HEZ := hide (((bdrawn (Below.refl wr.heap.size wr) nq).block _ hsz).trans HE.out)
        have e0 := ((bdrawn (Below.refl wr.heap.size wr) nq).cell (p := ⟨b1, o1 + k * 6, none⟩) lt_b1).trans e0; have e1 := ((bdrawn (Below.refl wr.heap.size wr) nq).cell (p := ⟨b1, o1 + k * 6 + 1, none⟩) lt_b1).trans e1; have e2 := ((bdrawn (Below.refl wr.heap.size wr) nq).cell (p := ⟨b1, o1 + k * 6 + 2, none⟩) lt_b1).trans e2; have e3 := ((bdrawn (Below.refl wr.heap.size wr) nq).cell (p := ⟨b1, o1 + k * 6 + 3, none⟩) lt_b1).trans e3; have e4 := ((bdrawn (Below.refl wr.heap.size wr) nq).cell (p := ⟨b1, o1 + k * 6 + 4, none⟩) lt_b1).trans e4; have e5 := ((bdrawn (Below.refl wr.heap.size wr) nq).cell (p := ⟨b1, o1 + k * 6 + 5, none⟩) lt_b1).trans e5
        have hszZ : wr.heap.size ≤ (wr.drewN nq).heap.size := Nat.le_refl _
        have lt_b1' : b1 < (wr.drewN nq).heap.size := lt_b1
        generalize wr.drewN nq = Z at hBZ HOZ HEZ e0 e1 e2 e3 e4 e5 hszZ lt_b1' ⊢
        go_wp2_with (at_builtin; refine wpList_append_own _ rfl _ _ 36 rfl (w.heap.size + 1) 41 i0_Rq (.agg #[.int .i64 0, .int .i64 0, .int .i64 0, .bool false, .int .i64 0, .int .i64 0]) 6 48 Try.underlying36 hi_Rq hz0_Rq hz1_Rq hz2_Rq rfl (by decide) _ _ _ rfl (HOZ.out.alloc _) ⟨Z.heap.size, 0, none⟩ 1 1 [.int .i64 e.id, .int .i64 e.tenant, .int .i64 e.line, .bool e.write, .int .i64 e.data, .int .i64 e.tm] rfl rfl ?c1z ?c2z ?c3z ?c4z ?c5z ?_)
        (try case c1z => exact news_at_of _ _ _ (by go_size))
        (try case c2z => first | exact List.all_eq_true.1 rfl | rfl)
        (try case c3z => (unfold maxLen; omega))
        (try case c4z => omega)
        (try case c5z => (first | go_size | (simp; omega)))
        intro v' wz hownz hgz _
        obtain ⟨az, cz, rfl⟩ := own_shape hownz
        obtain ⟨hBz, hsz⟩ := below_app hBZ HOZ.out (by omega) (by omega) hgz
        have HGz := hide hgz; clear hgz
        have HEz := hide (app_block HOZ.out HGz.out (by omega) (by omega) HEZ.out)
        have HOz := hide hownz
        clear hownz HGz
        go_wp2_with fail
        go_roundw
        case rel => exact ⟨k + 1, m + 1, _, _, xs ++ [e], true, by omega, by go_num, rfl, rfl, by simp; omega, hide (by simp [HL.out]), hide (by simpa [rqF] using HOz.out), hBz, by omega, HEz⟩
        case measure => simp [intOf]; omega
    · obtain rfl : k = n := by omega
      cases pv
      · have hm0 : m ≤ k := by simpa using hm
        clear hm hpv
        have r0 := cell_blk HE.out 0
        have r1 := cell_blk HE.out 1
        have r2 := cell_blk HE.out 2
        have r3 := cell_blk HE.out 3
        have r4 := cell_blk HE.out 4
        have r5 := cell_blk HE.out 5
        go_wp2_with (at_builtin; refine wpList_append_own _ rfl _ _ 36 rfl (w.heap.size + 1) 41 i0_Rq (.agg #[.int .i64 0, .int .i64 0, .int .i64 0, .bool false, .int .i64 0, .int .i64 0]) 6 48 Try.underlying36 hi_Rq hz0_Rq hz1_Rq hz2_Rq rfl (by decide) _ _ _ rfl (HO.out.alloc _) ⟨wr.heap.size, 0, none⟩ 1 1 [.int .i64 r.id, .int .i64 r.tenant, .int .i64 r.line, .bool r.write, .int .i64 r.data, .int .i64 r.tm] rfl rfl ?c1y ?c2y ?c3y ?c4y ?c5y ?_)
        (try case c1y => exact news_at_of _ _ _ (by go_size))
        (try case c2y => first | exact List.all_eq_true.1 rfl | rfl)
        (try case c3y => (unfold maxLen; omega))
        (try case c4y => omega)
        (try case c5y => (first | go_size | (simp; omega)))
        intro v' wy howny hgy _
        obtain ⟨ay, cy, rfl⟩ := own_shape howny
        obtain ⟨hBy, hsy⟩ := below_app hB HO.out (by omega) (by omega) hgy
        have HGy := hide hgy; clear hgy
        have HOy := hide (show wy.ownsRow (w.heap.size + 1) 41 6 (.slice ay (m + 1) cy) (m + 1) ((xs ++ [r]).flatMap rqF) by simpa [rqF] using howny)
        clear howny HGy
        go_wp2_with fail
        refine (spec_QueueOk lines _ _ _ es _ (HA.out.below hBy (Nat.le_refl _)) (by omega)).mono ?_
        rintro e u1 ⟨b1', rfl, hu1⟩
        have hBu1 := bthen hBy hu1 (by omega)
        have hsu1 := hBu1.size
        have HOu1 := hide (own_below HOy.out hu1 (fun q hq => (HOy.out.lt q hq).2))
        clear hu1
        cases b1'
        · skip
          have hB0f : Below w.heap.size w (u1.alloc (.cells #[] 41)) := bthen hBu1 (Below.alloc (Below.refl _ _) (Nat.le_refl _) _) (by omega)
          have HA0f := hide (HA.out.below hB0f (Nat.le_refl _))
          have HO0f := hide (own_made_at (w := u1) (base := w.heap.size) (e := 41) (size := 6) rfl (by omega))
          go_wp2_with (at_builtin; refine wpList_append_any rfl _ _ 36 rfl w.heap.size 41 i0_Rq (.agg #[.int .i64 0, .int .i64 0, .int .i64 0, .bool false, .int .i64 0, .int .i64 0]) 6 48 Try.underlying36 hi_Rq hz0_Rq hz1_Rq hz2_Rq rfl (by decide) _ _ _ rfl (HO0f.out) _ _ _ _ rfl (by rw [flat_len rqF_len, HN.out]) HA0f.out.2.2.2 (flat_ones (fun _ => rfl) _) ?c3f ?c4f ?c5f ?_)
          case c3f => unfold maxLen; omega
          case c4f => omega
          case c5f => (first | go_size | (simp; omega))
          intro v' wf hownf hgf
          obtain ⟨af, cf, rfl⟩ := own_shape hownf
          have hBf := below_grown hB0f (HO0f.out) (by omega) (by go_size) hgf
          have hsf := hgf.size
          (try simp only [World.size_alloc] at hsf)
          have HGf := hide hgf; clear hgf
          (try simp only [List.nil_append, Nat.zero_add] at hownf)
          have HOrf := hide hownf
          clear hownf HGf
          go_wp2_with fail
          go_returns
          exact ⟨_, _, _, es, false, by omega, rfl, HOrf.out, HN.out, hBf⟩
        · go_wp2_with fail
          refine (spec_QueueOk lines _ _ _ (xs ++ [r]) _ (isStructs_own rqF_len (by omega) HOu1.out) (by omega)).mono ?_
          rintro e u2 ⟨b2', rfl, hu2⟩
          have hBu2 := bthen hBu1 hu2 (by omega)
          have hsu2 := hBu2.size
          have HOu2 := hide (own_below HOu1.out hu2 (fun q hq => (HOu1.out.lt q hq).2))
          clear hu2
          cases b2'
          · skip
            have hB0g : Below w.heap.size w (u2.alloc (.cells #[] 41)) := bthen hBu2 (Below.alloc (Below.refl _ _) (Nat.le_refl _) _) (by omega)
            have HA0g := hide (HA.out.below hB0g (Nat.le_refl _))
            have HO0g := hide (own_made_at (w := u2) (base := w.heap.size) (e := 41) (size := 6) rfl (by omega))
            go_wp2_with (at_builtin; refine wpList_append_any rfl _ _ 36 rfl w.heap.size 41 i0_Rq (.agg #[.int .i64 0, .int .i64 0, .int .i64 0, .bool false, .int .i64 0, .int .i64 0]) 6 48 Try.underlying36 hi_Rq hz0_Rq hz1_Rq hz2_Rq rfl (by decide) _ _ _ rfl (HO0g.out) _ _ _ _ rfl (by rw [flat_len rqF_len, HN.out]) HA0g.out.2.2.2 (flat_ones (fun _ => rfl) _) ?c3g ?c4g ?c5g ?_)
            case c3g => unfold maxLen; omega
            case c4g => omega
            case c5g => (first | go_size | (simp; omega))
            intro v' wg howng hgg
            obtain ⟨ag, cg, rfl⟩ := own_shape howng
            have hBg := below_grown hB0g (HO0g.out) (by omega) (by go_size) hgg
            have hsg := hgg.size
            (try simp only [World.size_alloc] at hsg)
            have HGg := hide hgg; clear hgg
            (try simp only [List.nil_append, Nat.zero_add] at howng)
            have HOrg := hide howng
            clear howng HGg
            go_wp2_with fail
            go_returns
            exact ⟨_, _, _, es, false, by omega, rfl, HOrg.out, HN.out, hBg⟩
          · go_wp2_with fail
            go_returns
            exact ⟨_, _, _, xs ++ [r], true, by omega, rfl, own_base HOu2.out (by omega), by simp [HL.out], hBu2⟩
      · have hm0 : m ≤ k + 1 := by simpa using hm
        clear hm hpv
        go_wp2_with fail
        refine (spec_QueueOk lines _ _ _ es _ (HA.out.below hB (Nat.le_refl _)) (by omega)).mono ?_
        rintro e u1 ⟨b1', rfl, hu1⟩
        have hBu1 := bthen hB hu1 (by omega)
        have hsu1 := hBu1.size
        have HOu1 := hide (own_below HO.out hu1 (fun q hq => (HO.out.lt q hq).2))
        clear hu1
        cases b1'
        · skip
          have hB0h : Below w.heap.size w (u1.alloc (.cells #[] 41)) := bthen hBu1 (Below.alloc (Below.refl _ _) (Nat.le_refl _) _) (by omega)
          have HA0h := hide (HA.out.below hB0h (Nat.le_refl _))
          have HO0h := hide (own_made_at (w := u1) (base := w.heap.size) (e := 41) (size := 6) rfl (by omega))
          go_wp2_with (at_builtin; refine wpList_append_any rfl _ _ 36 rfl w.heap.size 41 i0_Rq (.agg #[.int .i64 0, .int .i64 0, .int .i64 0, .bool false, .int .i64 0, .int .i64 0]) 6 48 Try.underlying36 hi_Rq hz0_Rq hz1_Rq hz2_Rq rfl (by decide) _ _ _ rfl (HO0h.out) _ _ _ _ rfl (by rw [flat_len rqF_len, HN.out]) HA0h.out.2.2.2 (flat_ones (fun _ => rfl) _) ?c3h ?c4h ?c5h ?_)
          case c3h => unfold maxLen; omega
          case c4h => omega
          case c5h => (first | go_size | (simp; omega))
          intro v' wh hownh hgh
          obtain ⟨ah, ch, rfl⟩ := own_shape hownh
          have hBh := below_grown hB0h (HO0h.out) (by omega) (by go_size) hgh
          have hsh := hgh.size
          (try simp only [World.size_alloc] at hsh)
          have HGh := hide hgh; clear hgh
          (try simp only [List.nil_append, Nat.zero_add] at hownh)
          have HOrh := hide hownh
          clear hownh HGh
          go_wp2_with fail
          go_returns
          exact ⟨_, _, _, es, false, by omega, rfl, HOrh.out, HN.out, hBh⟩
        · go_wp2_with fail
          refine (spec_QueueOk lines _ _ _ (xs) _ (isStructs_own rqF_len (by omega) HOu1.out) (by omega)).mono ?_
          rintro e u2 ⟨b2', rfl, hu2⟩
          have hBu2 := bthen hBu1 hu2 (by omega)
          have hsu2 := hBu2.size
          have HOu2 := hide (own_below HOu1.out hu2 (fun q hq => (HOu1.out.lt q hq).2))
          clear hu2
          cases b2'
          · skip
            have hB0i : Below w.heap.size w (u2.alloc (.cells #[] 41)) := bthen hBu2 (Below.alloc (Below.refl _ _) (Nat.le_refl _) _) (by omega)
            have HA0i := hide (HA.out.below hB0i (Nat.le_refl _))
            have HO0i := hide (own_made_at (w := u2) (base := w.heap.size) (e := 41) (size := 6) rfl (by omega))
            go_wp2_with (at_builtin; refine wpList_append_any rfl _ _ 36 rfl w.heap.size 41 i0_Rq (.agg #[.int .i64 0, .int .i64 0, .int .i64 0, .bool false, .int .i64 0, .int .i64 0]) 6 48 Try.underlying36 hi_Rq hz0_Rq hz1_Rq hz2_Rq rfl (by decide) _ _ _ rfl (HO0i.out) _ _ _ _ rfl (by rw [flat_len rqF_len, HN.out]) HA0i.out.2.2.2 (flat_ones (fun _ => rfl) _) ?c3i ?c4i ?c5i ?_)
            case c3i => unfold maxLen; omega
            case c4i => omega
            case c5i => (first | go_size | (simp; omega))
            intro v' wi howni hgi
            obtain ⟨ai, ci, rfl⟩ := own_shape howni
            have hBi := below_grown hB0i (HO0i.out) (by omega) (by go_size) hgi
            have hsi := hgi.size
            (try simp only [World.size_alloc] at hsi)
            have HGi := hide hgi; clear hgi
            (try simp only [List.nil_append, Nat.zero_add] at howni)
            have HOri := hide howni
            clear howni HGi
            go_wp2_with fail
            go_returns
            exact ⟨_, _, _, es, false, by omega, rfl, HOri.out, HN.out, hBi⟩
          · go_wp2_with fail
            go_returns
            exact ⟨_, _, _, xs, true, by omega, rfl, own_base HOu2.out (by omega), HL.out, hBu2⟩
end Go.Proofs.Ytahfbhfmhccgoaa
