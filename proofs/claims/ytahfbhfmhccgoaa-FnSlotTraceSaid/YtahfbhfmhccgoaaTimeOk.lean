/- TimingOk of the program and of the reference. -/
import Derived.Test.YtahfbhfmhccgoaaWide
import Derived.BigQuiet
import Derived.Deep.RegionHeld3
set_option linter.unusedSimpArgs false
set_option linter.unusedVariables false
namespace Go.Proofs.Ytahfbhfmhccgoaa
open Go.RowKit Go.ChangeShapes Go.WideShapes Go.ChangeAt Go.Joins Go.Deep
open Go.ChangeMaps (open_string shut_string)
theorem tm_at (t : Tm) : (tmC t)[0]? = some (.int .i64 t.rcd) ∧ (tmC t)[1]? = some (.int .i64 t.rp) ∧ (tmC t)[2]? = some (.int .i64 t.ras) ∧ (tmC t)[3]? = some (.int .i64 t.rrds) ∧ (tmC t)[4]? = some (.int .i64 t.rrdl) ∧ (tmC t)[5]? = some (.int .i64 t.faw) ∧ (tmC t)[6]? = some (.int .i64 t.ccds) ∧ (tmC t)[7]? = some (.int .i64 t.ccdl) ∧ (tmC t)[8]? = some (.int .i64 t.rtp) ∧ (tmC t)[9]? = some (.int .i64 t.wr) ∧ (tmC t)[10]? = some (.int .i64 t.wtrs) ∧ (tmC t)[11]? = some (.int .i64 t.wtrl) ∧ (tmC t)[12]? = some (.int .i64 t.rtw) ∧ (tmC t)[13]? = some (.int .i64 t.rfc) ∧ (tmC t)[14]? = some (.int .i64 t.cke) ∧ (tmC t)[15]? = some (.int .i64 t.xp) ∧ (tmC t)[16]? = some (.int .i64 t.xs) := ⟨rfl, rfl, rfl, rfl, rfl, rfl, rfl, rfl, rfl, rfl, rfl, rfl, rfl, rfl, rfl, rfl, rfl⟩

theorem tmC_info (t : Tm) : (Try.prog.info? 73).map (·.size) = some (tmC t).toArray.size := by rw [List.size_toArray, tmC_len]; kernel_rfl
theorem tmC_info' (t : Tm) : (Try.prog.info? 82).map (·.size) = some (tmC t).toArray.size := by rw [List.size_toArray, tmC_len]; kernel_rfl
theorem tmL_all {t : Tm} {k : Nat} {z : Int} (h : (tmL t)[k]? = some z) (hz : btw z 1 64 = false) : tmOk t = false := by
  unfold tmOk tmAll
  rw [show ((tmL t).all fun z => btw z 1 64) = false by rw [List.all_eq_false]; exact ⟨z, List.mem_of_getElem? h, by simp [hz]⟩]; rfl
theorem tm_allnext {t : Tm} {k : Nat} {z : Int} (h : (((tmL t).take k).all fun z => btw z 1 64) = true) (he : (tmL t)[k]? = some z) (hp : btw z 1 64 = true) : (((tmL t).take (k + 1)).all fun z => btw z 1 64) = true := by
  rw [take_snoc he, List.all_append, h]; simp [hp]
theorem tm_end {t : Tm} (h : (((tmL t).take 17).all fun z => btw z 1 64) = true) : tmOk t = tmOrd t := by
  unfold tmOk tmAll
  rw [show (tmL t).take 17 = tmL t from rfl] at h
  rw [h]; rfl
theorem tm_row (t : Tm) (w : World) (T : TypeId) (b k : Nat) (z : Int) (hb : b = w.heap.size) (h : (tmL t)[k]? = some z) : (w.alloc (.cells #[.int .i64 t.rcd, .int .i64 t.rp, .int .i64 t.ras, .int .i64 t.rrds, .int .i64 t.rrdl, .int .i64 t.faw, .int .i64 t.ccds, .int .i64 t.ccdl, .int .i64 t.rtp, .int .i64 t.wr, .int .i64 t.wtrs, .int .i64 t.wtrl, .int .i64 t.rtw, .int .i64 t.rfc, .int .i64 t.cke, .int .i64 t.xp, .int .i64 t.xs] T)).cell? ⟨b, k, none⟩ = some (.int .i64 z) := by
  subst hb
  have e1 : (#[.int .i64 t.rcd, .int .i64 t.rp, .int .i64 t.ras, .int .i64 t.rrds, .int .i64 t.rrdl, .int .i64 t.faw, .int .i64 t.ccds, .int .i64 t.ccdl, .int .i64 t.rtp, .int .i64 t.wr, .int .i64 t.wtrs, .int .i64 t.wtrl, .int .i64 t.rtw, .int .i64 t.rfc, .int .i64 t.cke, .int .i64 t.xp, .int .i64 t.xs] : Array Value) = ((tmL t).map (Value.int .i64)).toArray := rfl
  rw [e1, World.cell?_alloc_new]
  simp [h]

set_option maxRecDepth 100000 in
set_option maxHeartbeats 2000000 in
theorem impl_TimingOk (t : Tm) (w : World) :
    Calls Try.prog 94 #[.agg (tmC t).toArray] w fun e w' => e = .returned (.bool (tmOk t)) ∧ Below w.heap.size w w' := by
  obtain ⟨tc0, tc1, tc2, tc3, tc4, tc5, tc6, tc7, tc8, tc9, tc10, tc11, tc12, tc13, tc14, tc15, tc16⟩ := tm_at t
  go_enter Try.func94, Try.ntmps94
  go_wp2_with fail
  go_loopw [41] (fun i wr => ∃ k : Nat, k ≤ 17 ∧ i = .int .i64 k ∧ Hid ((((tmL t).take k).all fun z => btw z 1 64) = true) ∧ wr.heap[w.heap.size]? = some (.cells (tmC t).toArray 73 (0, 0)) ∧ wr.heap[w.heap.size + 1]? = some (.cells ((tmL t).map (Value.int .i64)).toArray 3 (0, 0)) ∧ Below w.heap.size w wr) (fun i _ => 17 - (intOf i).toNat)
  case atStart => exact ⟨0, by omega, rfl, hide rfl, by rw [alloc_lt _ _ _ (by simp), alloc_at _ _ _ rfl], by rw [alloc_at _ _ _ (by simp)]; rfl, by go_grown⟩
  case round =>
    obtain ⟨k, hk, rfl, HT, hr1, hr2, hB⟩ := hrel
    have hs1 := hB.size
    by_cases hlt : k < 17
    · obtain ⟨z, hz⟩ : ∃ z, (tmL t)[k]? = some z := ⟨_, List.getElem?_eq_getElem (show k < (tmL t).length from hlt)⟩
      have e1 : wr.cell? ⟨w.heap.size + 1, k, none⟩ = some (.int .i64 z) := by rw [cell_blk hr2]; simp [hz]
      have HZ := hide hz
      have HR1 := hide hr1; have HR2 := hide hr2
      have i0 : (0 : Int) ≤ (k : Int) := by omega
      have i1 : (k : Int) < 17 := by omega
      clear hz hr1 hr2
      cases q : btw z 1 64
      · go_wp2_with (first | (go_at_call 77; refine (impl_between _ _ _ _).mono ?_; rintro e w1 ⟨rfl, rfl⟩))
        go_ret
        exact ⟨ret_bool (by rw [tmL_all HZ.out q]), hB⟩
      · go_wp2_with (first | (go_at_call 77; refine (impl_between _ _ _ _).mono ?_; rintro e w1 ⟨rfl, rfl⟩))
        go_roundw
        case rel => exact ⟨k + 1, by omega, by go_num, hide (tm_allnext HT.out HZ.out q), HR1.out, HR2.out, hB⟩
        case measure => simp [intOf]; omega
    · obtain rfl : k = 17 := by omega
      have HE := hide (tm_end HT.out)
      have c0 : wr.cell? ⟨w.heap.size, 0, none⟩ = some (.int .i64 t.rcd) := (cell_blk hr1 0).trans (by simp [tc0])
      have c2 : wr.cell? ⟨w.heap.size, 2, none⟩ = some (.int .i64 t.ras) := (cell_blk hr1 2).trans (by simp [tc2])
      have c3 : wr.cell? ⟨w.heap.size, 3, none⟩ = some (.int .i64 t.rrds) := (cell_blk hr1 3).trans (by simp [tc3])
      have c4 : wr.cell? ⟨w.heap.size, 4, none⟩ = some (.int .i64 t.rrdl) := (cell_blk hr1 4).trans (by simp [tc4])
      have c6 : wr.cell? ⟨w.heap.size, 6, none⟩ = some (.int .i64 t.ccds) := (cell_blk hr1 6).trans (by simp [tc6])
      have c7 : wr.cell? ⟨w.heap.size, 7, none⟩ = some (.int .i64 t.ccdl) := (cell_blk hr1 7).trans (by simp [tc7])
      have c10 : wr.cell? ⟨w.heap.size, 10, none⟩ = some (.int .i64 t.wtrs) := (cell_blk hr1 10).trans (by simp [tc10])
      have c11 : wr.cell? ⟨w.heap.size, 11, none⟩ = some (.int .i64 t.wtrl) := (cell_blk hr1 11).trans (by simp [tc11])
      clear hr1 hr2 tc0 tc1 tc2 tc3 tc4 tc5 tc6 tc7 tc8 tc9 tc10 tc11 tc12 tc13 tc14 tc15 tc16
      by_cases h0 : t.rcd ≤ t.ras
      rotate_left
      · have d0 : decide (t.rcd ≤ t.ras) = false := by simpa using h0
        have HV := hide (show tmOk t = false by rw [HE.out]; unfold tmOrd; simp [h0])
        go_wp2_with fail
        (try go_quiet (fail))
        (try go_wp2_with fail)
        go_ret
        exact ⟨ret_bool (by rw [HV.out]), (by repeat' (first | (with_reducible exact Below.refl _ _) | (with_reducible assumption) | (with_reducible refine bdrawn ?_ _) | (with_reducible refine Below.alloc ?_ ?_ _) | (with_reducible refine Below.drew ?_) | (with_reducible refine Below.setCell ?_ ?_ _) | go_size))⟩
      by_cases h1 : t.rrds ≤ t.rrdl
      rotate_left
      · have d1 : decide (t.rrds ≤ t.rrdl) = false := by simpa using h1
        have HV := hide (show tmOk t = false by rw [HE.out]; unfold tmOrd; simp [h0, h1])
        go_wp2_with fail
        (try go_quiet (fail))
        (try go_wp2_with fail)
        go_ret
        exact ⟨ret_bool (by rw [HV.out]), (by repeat' (first | (with_reducible exact Below.refl _ _) | (with_reducible assumption) | (with_reducible refine bdrawn ?_ _) | (with_reducible refine Below.alloc ?_ ?_ _) | (with_reducible refine Below.drew ?_) | (with_reducible refine Below.setCell ?_ ?_ _) | go_size))⟩
      by_cases h2 : t.ccds ≤ t.ccdl
      rotate_left
      · have d2 : decide (t.ccds ≤ t.ccdl) = false := by simpa using h2
        have HV := hide (show tmOk t = false by rw [HE.out]; unfold tmOrd; simp [h0, h1, h2])
        go_wp2_with fail
        (try go_quiet (fail))
        (try go_wp2_with fail)
        go_ret
        exact ⟨ret_bool (by rw [HV.out]), (by repeat' (first | (with_reducible exact Below.refl _ _) | (with_reducible assumption) | (with_reducible refine bdrawn ?_ _) | (with_reducible refine Below.alloc ?_ ?_ _) | (with_reducible refine Below.drew ?_) | (with_reducible refine Below.setCell ?_ ?_ _) | go_size))⟩
      by_cases h3 : t.wtrs ≤ t.wtrl
      rotate_left
      · have d3 : decide (t.wtrs ≤ t.wtrl) = false := by simpa using h3
        have HV := hide (show tmOk t = false by rw [HE.out]; unfold tmOrd; simp [h0, h1, h2, h3])
        go_wp2_with fail
        (try go_quiet (fail))
        (try go_wp2_with fail)
        go_ret
        exact ⟨ret_bool (by rw [HV.out]), (by repeat' (first | (with_reducible exact Below.refl _ _) | (with_reducible assumption) | (with_reducible refine bdrawn ?_ _) | (with_reducible refine Below.alloc ?_ ?_ _) | (with_reducible refine Below.drew ?_) | (with_reducible refine Below.setCell ?_ ?_ _) | go_size))⟩
      have HV := hide (show tmOk t = true by rw [HE.out]; unfold tmOrd; simp [h0, h1, h2, h3])
      go_wp2_with fail
      (try go_quiet (fail))
      (try go_wp2_with fail)
      go_ret
      exact ⟨ret_bool (by rw [HV.out]), (by repeat' (first | (with_reducible exact Below.refl _ _) | (with_reducible assumption) | (with_reducible refine bdrawn ?_ _) | (with_reducible refine Below.alloc ?_ ?_ _) | (with_reducible refine Below.drew ?_) | (with_reducible refine Below.setCell ?_ ?_ _) | go_size))⟩

set_option maxRecDepth 100000 in
set_option maxHeartbeats 2000000 in
theorem spec_l07List (t : Tm) (w : World) :
    Calls Try.prog 134 #[.agg (tmC t).toArray] w (Fresh w 3 1 17 ((tmL t).map (.int .i64))) := by
  obtain ⟨tc0, tc1, tc2, tc3, tc4, tc5, tc6, tc7, tc8, tc9, tc10, tc11, tc12, tc13, tc14, tc15, tc16⟩ := tm_at t
  go_enter Try.func134, Try.ntmps134
  go_wp2_with fail
  go_ret
  have ho := World.ownsRow_lit (base := w.heap.size) (e := 3) (size := 1) (w.alloc (.cells (tmC t).toArray 73)) ((tmL t).map (Value.int .i64)).toArray 17 (by simp) (by decide) rfl
  refine ⟨_, _, rfl, ?_, by go_grown⟩
  show ((w.alloc _).alloc (.cells ((tmL t).map (Value.int .i64)).toArray 3)).ownsRow _ _ _ _ _ _
  simpa using ho

set_option maxRecDepth 100000 in
set_option maxHeartbeats 2000000 in
theorem spec_TimingOk (t : Tm) (w : World) :
    Calls Try.prog 104 #[.agg (tmC t).toArray] w fun e w' => e = .returned (.bool (tmOk t)) ∧ Below w.heap.size w w' := by
  obtain ⟨tc0, tc1, tc2, tc3, tc4, tc5, tc6, tc7, tc8, tc9, tc10, tc11, tc12, tc13, tc14, tc15, tc16⟩ := tm_at t
  have hb0 : (w.alloc (.cells (tmC t).toArray 73)).heap[w.heap.size]? = some (.cells (tmC t).toArray 73 (0, 0)) := alloc_at _ _ _ rfl
  have HB0 := hide hb0
  clear hb0
  go_enter Try.func104, Try.ntmps104
  go_wp2_with (refine wpList_load_row rfl 73 _ rfl w.heap.size rfl 73 (tmC t).toArray (0, 0) _ HB0.out Try.underlying73 rfl (tmC_info t) ?_)
  refine (spec_l07List t _).mono ?_
  rintro e w1 ⟨a1, c1, rfl, hown, h1⟩
  have hb1 : w1.heap[w.heap.size]? = some (.cells (tmC t).toArray 73 (0, 0)) := by rw [h1.block _ (by simp), alloc_at _ _ _ rfl]
  have hB1 : Below w.heap.size w w1 := bthen (by go_grown) h1 (by simp)
  obtain ⟨a', c', ea, hlen, hcap1, hcap2, hrow⟩ := rowIn_own hown
  injection ea with ea1 ea2 ea3
  subst ea1 ea3
  have HI := hide hrow
  have HB1 := hide hb1
  have hcap3 : c1 ≤ 9223372036854775807 := hcap2
  have hs1 := hB1.size
  clear hown hrow hlen hb1 h1 hcap2
  go_wp2_with fail
  go_loopw [4] (fun i wr => ∃ k : Nat, k ≤ 17 ∧ i = .int .i64 k ∧ Hid ((((tmL t).take k).all fun z => btw z 1 64) = true) ∧ wr = w1) (fun i _ => 17 - (intOf i).toNat)
  case atStart => exact ⟨0, by omega, rfl, hide rfl, rfl⟩
  case round =>
    obtain ⟨k, hk, rfl, HT, rfl⟩ := hrel
    by_cases hlt : k < 17
    · obtain ⟨z, hz⟩ : ∃ z, (tmL t)[k]? = some z := ⟨_, List.getElem?_eq_getElem (show k < (tmL t).length from hlt)⟩
      obtain ⟨b1, o1, rfl, e1⟩ := HI.out k (.int .i64 z) (by simp [hz])
      have HZ := hide hz
      have i0 : (0 : Int) ≤ (k : Int) := by omega
      have i1 : (k : Int) < 17 := by omega
      clear hz
      cases q : btw z 1 64
      · go_wp2_with (first | (go_at_call 78; refine (spec_l01In _ _ _ _).mono ?_; rintro e w1 ⟨rfl, rfl⟩))
        go_ret
        exact ⟨ret_bool (by rw [tmL_all HZ.out q]), hB1⟩
      · go_wp2_with (first | (go_at_call 78; refine (spec_l01In _ _ _ _).mono ?_; rintro e w1 ⟨rfl, rfl⟩))
        go_roundw
        case rel => exact ⟨k + 1, by omega, by go_num, hide (tm_allnext HT.out HZ.out q), by trivial⟩
        case measure => simp [intOf]; omega
    · obtain rfl : k = 17 := by omega
      have HE := hide (tm_end HT.out)
      have hr1 := HB1.out
      have c0 : wr.cell? ⟨w.heap.size, 0, none⟩ = some (.int .i64 t.rcd) := (cell_blk hr1 0).trans (by simp [tc0])
      have c2 : wr.cell? ⟨w.heap.size, 2, none⟩ = some (.int .i64 t.ras) := (cell_blk hr1 2).trans (by simp [tc2])
      have c3 : wr.cell? ⟨w.heap.size, 3, none⟩ = some (.int .i64 t.rrds) := (cell_blk hr1 3).trans (by simp [tc3])
      have c4 : wr.cell? ⟨w.heap.size, 4, none⟩ = some (.int .i64 t.rrdl) := (cell_blk hr1 4).trans (by simp [tc4])
      have c6 : wr.cell? ⟨w.heap.size, 6, none⟩ = some (.int .i64 t.ccds) := (cell_blk hr1 6).trans (by simp [tc6])
      have c7 : wr.cell? ⟨w.heap.size, 7, none⟩ = some (.int .i64 t.ccdl) := (cell_blk hr1 7).trans (by simp [tc7])
      have c10 : wr.cell? ⟨w.heap.size, 10, none⟩ = some (.int .i64 t.wtrs) := (cell_blk hr1 10).trans (by simp [tc10])
      have c11 : wr.cell? ⟨w.heap.size, 11, none⟩ = some (.int .i64 t.wtrl) := (cell_blk hr1 11).trans (by simp [tc11])
      clear hr1 tc0 tc1 tc2 tc3 tc4 tc5 tc6 tc7 tc8 tc9 tc10 tc11 tc12 tc13 tc14 tc15 tc16
      have hB := hB1
      by_cases h0 : t.rcd ≤ t.ras
      rotate_left
      · have d0 : decide (t.rcd ≤ t.ras) = false := by simpa using h0
        have HV := hide (show tmOk t = false by rw [HE.out]; unfold tmOrd; simp [h0])
        go_wp2_with fail
        (try go_quiet (fail))
        (try go_wp2_with fail)
        go_ret
        exact ⟨ret_bool (by rw [HV.out]), (by repeat' (first | (with_reducible exact Below.refl _ _) | (with_reducible assumption) | (with_reducible refine bdrawn ?_ _) | (with_reducible refine Below.alloc ?_ ?_ _) | (with_reducible refine Below.drew ?_) | (with_reducible refine Below.setCell ?_ ?_ _) | go_size))⟩
      by_cases h1 : t.rrds ≤ t.rrdl
      rotate_left
      · have d1 : decide (t.rrds ≤ t.rrdl) = false := by simpa using h1
        have HV := hide (show tmOk t = false by rw [HE.out]; unfold tmOrd; simp [h0, h1])
        go_wp2_with fail
        (try go_quiet (fail))
        (try go_wp2_with fail)
        go_ret
        exact ⟨ret_bool (by rw [HV.out]), (by repeat' (first | (with_reducible exact Below.refl _ _) | (with_reducible assumption) | (with_reducible refine bdrawn ?_ _) | (with_reducible refine Below.alloc ?_ ?_ _) | (with_reducible refine Below.drew ?_) | (with_reducible refine Below.setCell ?_ ?_ _) | go_size))⟩
      by_cases h2 : t.ccds ≤ t.ccdl
      rotate_left
      · have d2 : decide (t.ccds ≤ t.ccdl) = false := by simpa using h2
        have HV := hide (show tmOk t = false by rw [HE.out]; unfold tmOrd; simp [h0, h1, h2])
        go_wp2_with fail
        (try go_quiet (fail))
        (try go_wp2_with fail)
        go_ret
        exact ⟨ret_bool (by rw [HV.out]), (by repeat' (first | (with_reducible exact Below.refl _ _) | (with_reducible assumption) | (with_reducible refine bdrawn ?_ _) | (with_reducible refine Below.alloc ?_ ?_ _) | (with_reducible refine Below.drew ?_) | (with_reducible refine Below.setCell ?_ ?_ _) | go_size))⟩
      by_cases h3 : t.wtrs ≤ t.wtrl
      rotate_left
      · have d3 : decide (t.wtrs ≤ t.wtrl) = false := by simpa using h3
        have HV := hide (show tmOk t = false by rw [HE.out]; unfold tmOrd; simp [h0, h1, h2, h3])
        go_wp2_with fail
        (try go_quiet (fail))
        (try go_wp2_with fail)
        go_ret
        exact ⟨ret_bool (by rw [HV.out]), (by repeat' (first | (with_reducible exact Below.refl _ _) | (with_reducible assumption) | (with_reducible refine bdrawn ?_ _) | (with_reducible refine Below.alloc ?_ ?_ _) | (with_reducible refine Below.drew ?_) | (with_reducible refine Below.setCell ?_ ?_ _) | go_size))⟩
      have HV := hide (show tmOk t = true by rw [HE.out]; unfold tmOrd; simp [h0, h1, h2, h3])
      go_wp2_with fail
      (try go_quiet (fail))
      (try go_wp2_with fail)
      go_ret
      exact ⟨ret_bool (by rw [HV.out]), (by repeat' (first | (with_reducible exact Below.refl _ _) | (with_reducible assumption) | (with_reducible refine bdrawn ?_ _) | (with_reducible refine Below.alloc ?_ ?_ _) | (with_reducible refine Below.drew ?_) | (with_reducible refine Below.setCell ?_ ?_ _) | go_size))⟩
end Go.Proofs.Ytahfbhfmhccgoaa
