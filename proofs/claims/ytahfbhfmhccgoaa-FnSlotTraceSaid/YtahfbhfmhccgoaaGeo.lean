/- The geometry of a rank: whether it is valid, and its counts, of the program and of the reference. -/
import Derived.Test.YtahfbhfmhccgoaaBetween
import Derived.Deep.RegionHeld3
set_option linter.unusedSimpArgs false
set_option linter.unusedVariables false
namespace Go.Proofs.Ytahfbhfmhccgoaa
open Go.RowKit Go.ChangeShapes Go.WideShapes Go.ChangeAt Go.Joins Go.Deep
open Go.ChangeMaps (open_string shut_string)
structure Ge where
  gr : Int
  bk : Int
  rw : Int
  cl : Int
def geoOk (g : Ge) : Bool := btw g.gr 1 2 && (btw g.bk 1 4 && (btw g.rw 2 16 && btw g.cl 1 8))
theorem geoOk_bd {g : Ge} (h : geoOk g = true) : 1 ≤ g.gr ∧ g.gr ≤ 2 ∧ 1 ≤ g.bk ∧ g.bk ≤ 4 ∧ 2 ≤ g.rw ∧ g.rw ≤ 16 ∧ 1 ≤ g.cl ∧ g.cl ≤ 8 := by
  simp only [geoOk, Bool.and_eq_true, btw_true] at h; omega
theorem geoOk_mk {g : Ge} (h : 1 ≤ g.gr ∧ g.gr ≤ 2 ∧ 1 ≤ g.bk ∧ g.bk ≤ 4 ∧ 2 ≤ g.rw ∧ g.rw ≤ 16 ∧ 1 ≤ g.cl ∧ g.cl ≤ 8) : geoOk g = true := by
  simp only [geoOk, Bool.and_eq_true, btw_true]; omega
def bankCnt (g : Ge) : Int := if geoOk g = true then g.gr * g.bk else 0
def lineCnt (g : Ge) : Int := if geoOk g = true then g.gr * g.bk * g.rw * g.cl else 0
theorem bank_bd {g : Ge} (h : geoOk g = true) : 1 ≤ g.gr * g.bk ∧ g.gr * g.bk ≤ 8 := by
  obtain ⟨h1, h2, h3, h4, _⟩ := geoOk_bd h
  have a : 1 * 1 ≤ g.gr * g.bk := Int.mul_le_mul h1 h3 (by omega) (by omega)
  have b : g.gr * g.bk ≤ 2 * 4 := Int.mul_le_mul h2 h4 (by omega) (by omega)
  omega
theorem rows_bd {g : Ge} (h : geoOk g = true) : 2 ≤ g.gr * g.bk * g.rw ∧ g.gr * g.bk * g.rw ≤ 128 := by
  obtain ⟨h1, h2, h3, h4, h5, h6, _⟩ := geoOk_bd h
  have hb := bank_bd h
  have a : 1 * 2 ≤ g.gr * g.bk * g.rw := Int.mul_le_mul hb.1 h5 (by omega) (by omega)
  have b : g.gr * g.bk * g.rw ≤ 8 * 16 := Int.mul_le_mul hb.2 h6 (by omega) (by omega)
  omega
theorem line_bd {g : Ge} (h : geoOk g = true) : 2 ≤ g.gr * g.bk * g.rw * g.cl ∧ g.gr * g.bk * g.rw * g.cl ≤ 1024 := by
  obtain ⟨h1, h2, h3, h4, h5, h6, h7, h8⟩ := geoOk_bd h
  have hb := rows_bd h
  have a : 2 * 1 ≤ g.gr * g.bk * g.rw * g.cl := Int.mul_le_mul hb.1 h7 (by omega) (by omega)
  have b : g.gr * g.bk * g.rw * g.cl ≤ 128 * 8 := Int.mul_le_mul hb.2 h8 (by omega) (by omega)
  omega
theorem bankCnt_bd (g : Ge) : 0 ≤ bankCnt g ∧ bankCnt g ≤ 8 := by
  unfold bankCnt; split
  · next h => have := bank_bd h; omega
  · omega
theorem lineCnt_bd (g : Ge) : 0 ≤ lineCnt g ∧ lineCnt g ≤ 1024 := by
  unfold lineCnt; split
  · next h => have := line_bd h; omega
  · omega
set_option maxHeartbeats 800000 in
theorem impl_GeometryOk (g : Ge) (w : World) :
    Calls Try.prog 95 #[.agg #[.int .i64 g.gr, .int .i64 g.bk, .int .i64 g.rw, .int .i64 g.cl]] w fun e w' => e = .returned (.bool (geoOk g)) ∧ Below w.heap.size w w' := by
  go_enter Try.func95, Try.ntmps95
  go_wp2_with (first | (go_at_call 77; refine (impl_between _ _ _ _).mono ?_; rintro e w1 ⟨rfl, rfl⟩))
  all_goals go_ret
  all_goals exact ⟨by first | (simp [geoOk, *]; done) | (simp [geoOk, *]; omega), by go_grown⟩
set_option maxHeartbeats 800000 in
theorem spec_GeometryOk (g : Ge) (w : World) :
    Calls Try.prog 103 #[.agg #[.int .i64 g.gr, .int .i64 g.bk, .int .i64 g.rw, .int .i64 g.cl]] w fun e w' => e = .returned (.bool (geoOk g)) ∧ Below w.heap.size w w' := by
  go_enter Try.func103, Try.ntmps103
  go_wp2_with (first | (go_at_call 78; refine (spec_l01In _ _ _ _).mono ?_; rintro e w1 ⟨rfl, rfl⟩))
  all_goals go_ret
  all_goals exact ⟨by first | (simp [geoOk, *]; done) | (simp [geoOk, *]; omega), by go_grown⟩
theorem impl_GeometryOk_is (g : Ge) (v : Bool) (h : geoOk g = v) (w : World) :
    Calls Try.prog 95 #[.agg #[.int .i64 g.gr, .int .i64 g.bk, .int .i64 g.rw, .int .i64 g.cl]] w fun e w' => e = .returned (.bool v) ∧ Below w.heap.size w w' := by subst h; exact impl_GeometryOk g w
theorem spec_GeometryOk_is (g : Ge) (v : Bool) (h : geoOk g = v) (w : World) :
    Calls Try.prog 103 #[.agg #[.int .i64 g.gr, .int .i64 g.bk, .int .i64 g.rw, .int .i64 g.cl]] w fun e w' => e = .returned (.bool v) ∧ Below w.heap.size w w' := by subst h; exact spec_GeometryOk g w
set_option maxHeartbeats 800000 in
theorem impl_BankCount (g : Ge) (w : World) :
    Calls Try.prog 128 #[.agg #[.int .i64 g.gr, .int .i64 g.bk, .int .i64 g.rw, .int .i64 g.cl]] w fun e w' => e = .returned (.int .i64 (bankCnt g)) ∧ Below w.heap.size w w' := by
  cases hok : geoOk g
  · have HV := hide (show bankCnt g = 0 by unfold bankCnt; rw [hok]; rfl)
    go_enter Try.func128, Try.ntmps128
    go_wp2_with fail
    refine (impl_GeometryOk_is g false hok _).mono ?_
    rintro e w1 ⟨rfl, h1⟩
    have s1 := h1.size
    try simp only [World.size_alloc, World.size_setCell, World.size_drew, World.heap_drewN] at s1
    have B1_1 := h1
    have z1_0 : w.heap.size < w1.heap.size := by omega
    have q1_0 := fun o => (bcell B1_1).1 (w.heap.size) o (by go_size)
    have f1_0 := fun o => (bcell B1_1).2 (w.heap.size) o (by go_size)
    have H1 : Below w.heap.size w w1 := bthen (by repeat' (first | (with_reducible exact Below.refl _ _) | (with_reducible assumption) | (with_reducible refine bdrawn ?_ _) | (with_reducible refine Below.alloc ?_ ?_ _) | (with_reducible refine Below.drew ?_) | (with_reducible refine Below.setCell ?_ ?_ _) | go_size)) h1 (by go_size)
    have C1 := (bcell H1).1; have F1 := (bcell H1).2
    go_wp2_with fail
    go_ret
    exact ⟨ret_int HV.out.symm, H1⟩
  · have HV := hide (show bankCnt g = g.gr * g.bk by unfold bankCnt; rw [hok]; rfl)
    have hb := bank_bd hok
    have b1 := hb.1; have b2 := hb.2
    clear hb
    go_enter Try.func128, Try.ntmps128
    go_wp2_with fail
    refine (impl_GeometryOk_is g true hok _).mono ?_
    rintro e w1 ⟨rfl, h1⟩
    have s1 := h1.size
    try simp only [World.size_alloc, World.size_setCell, World.size_drew, World.heap_drewN] at s1
    have B1_1 := h1
    have z1_0 : w.heap.size < w1.heap.size := by omega
    have q1_0 := fun o => (bcell B1_1).1 (w.heap.size) o (by go_size)
    have f1_0 := fun o => (bcell B1_1).2 (w.heap.size) o (by go_size)
    have H1 : Below w.heap.size w w1 := bthen (by repeat' (first | (with_reducible exact Below.refl _ _) | (with_reducible assumption) | (with_reducible refine bdrawn ?_ _) | (with_reducible refine Below.alloc ?_ ?_ _) | (with_reducible refine Below.drew ?_) | (with_reducible refine Below.setCell ?_ ?_ _) | go_size)) h1 (by go_size)
    have C1 := (bcell H1).1; have F1 := (bcell H1).2
    go_wp2_with fail
    go_ret
    exact ⟨ret_int HV.out.symm, H1⟩
set_option maxHeartbeats 800000 in
theorem spec_BankCount (g : Ge) (w : World) :
    Calls Try.prog 122 #[.agg #[.int .i64 g.gr, .int .i64 g.bk, .int .i64 g.rw, .int .i64 g.cl]] w fun e w' => e = .returned (.int .i64 (bankCnt g)) ∧ Below w.heap.size w w' := by
  cases hok : geoOk g
  · have HV := hide (show bankCnt g = 0 by unfold bankCnt; rw [hok]; rfl)
    go_enter Try.func122, Try.ntmps122
    go_wp2_with fail
    refine (spec_GeometryOk_is g false hok _).mono ?_
    rintro e w1 ⟨rfl, h1⟩
    have s1 := h1.size
    try simp only [World.size_alloc, World.size_setCell, World.size_drew, World.heap_drewN] at s1
    have B1_1 := h1
    have z1_0 : w.heap.size < w1.heap.size := by omega
    have q1_0 := fun o => (bcell B1_1).1 (w.heap.size) o (by go_size)
    have f1_0 := fun o => (bcell B1_1).2 (w.heap.size) o (by go_size)
    have H1 : Below w.heap.size w w1 := bthen (by repeat' (first | (with_reducible exact Below.refl _ _) | (with_reducible assumption) | (with_reducible refine bdrawn ?_ _) | (with_reducible refine Below.alloc ?_ ?_ _) | (with_reducible refine Below.drew ?_) | (with_reducible refine Below.setCell ?_ ?_ _) | go_size)) h1 (by go_size)
    have C1 := (bcell H1).1; have F1 := (bcell H1).2
    go_wp2_with fail
    go_ret
    exact ⟨ret_int HV.out.symm, H1⟩
  · have HV := hide (show bankCnt g = g.gr * g.bk by unfold bankCnt; rw [hok]; rfl)
    have hb := bank_bd hok
    have b1 := hb.1; have b2 := hb.2
    clear hb
    go_enter Try.func122, Try.ntmps122
    go_wp2_with fail
    refine (spec_GeometryOk_is g true hok _).mono ?_
    rintro e w1 ⟨rfl, h1⟩
    have s1 := h1.size
    try simp only [World.size_alloc, World.size_setCell, World.size_drew, World.heap_drewN] at s1
    have B1_1 := h1
    have z1_0 : w.heap.size < w1.heap.size := by omega
    have q1_0 := fun o => (bcell B1_1).1 (w.heap.size) o (by go_size)
    have f1_0 := fun o => (bcell B1_1).2 (w.heap.size) o (by go_size)
    have H1 : Below w.heap.size w w1 := bthen (by repeat' (first | (with_reducible exact Below.refl _ _) | (with_reducible assumption) | (with_reducible refine bdrawn ?_ _) | (with_reducible refine Below.alloc ?_ ?_ _) | (with_reducible refine Below.drew ?_) | (with_reducible refine Below.setCell ?_ ?_ _) | go_size)) h1 (by go_size)
    have C1 := (bcell H1).1; have F1 := (bcell H1).2
    go_wp2_with fail
    go_ret
    exact ⟨ret_int HV.out.symm, H1⟩
theorem impl_BankCount_is (g : Ge) (v : Int) (h : bankCnt g = v) (w : World) :
    Calls Try.prog 128 #[.agg #[.int .i64 g.gr, .int .i64 g.bk, .int .i64 g.rw, .int .i64 g.cl]] w fun e w' => e = .returned (.int .i64 v) ∧ Below w.heap.size w w' := by subst h; exact impl_BankCount g w
theorem spec_BankCount_is (g : Ge) (v : Int) (h : bankCnt g = v) (w : World) :
    Calls Try.prog 122 #[.agg #[.int .i64 g.gr, .int .i64 g.bk, .int .i64 g.rw, .int .i64 g.cl]] w fun e w' => e = .returned (.int .i64 v) ∧ Below w.heap.size w w' := by subst h; exact spec_BankCount g w
def geC (w : World) (g : Ge) (v : World) : Prop := v.cell? ⟨w.heap.size, 0, none⟩ = some (.int .i64 g.gr) ∧ v.cell? ⟨w.heap.size, 1, none⟩ = some (.int .i64 g.bk) ∧ v.cell? ⟨w.heap.size, 2, none⟩ = some (.int .i64 g.rw) ∧ v.cell? ⟨w.heap.size, 3, none⟩ = some (.int .i64 g.cl)
set_option maxHeartbeats 800000 in
theorem impl_LineCount (g : Ge) (w : World) :
    Calls Try.prog 127 #[.agg #[.int .i64 g.gr, .int .i64 g.bk, .int .i64 g.rw, .int .i64 g.cl]] w fun e w' => e = .returned (.int .i64 (lineCnt g)) ∧ Below w.heap.size w w' := by
  cases hok : geoOk g
  · have HV := hide (show lineCnt g = 0 by unfold lineCnt; rw [hok]; rfl)
    have HB := hide (show bankCnt g = 0 by unfold bankCnt; rw [hok]; rfl)
    have z1 : IntKind.i64.wrap (0 * g.rw) = 0 := by rw [Int.zero_mul]; rfl
    have z2 : IntKind.i64.wrap (0 * g.cl) = 0 := by rw [Int.zero_mul]; rfl
    go_enter Try.func127, Try.ntmps127
    go_wp2_with fail
    go_region_held3 (fun v => v.cell? ⟨w.heap.size, 0, none⟩ = some (.int .i64 g.gr) ∧ v.cell? ⟨w.heap.size, 1, none⟩ = some (.int .i64 g.bk) ∧ v.cell? ⟨w.heap.size, 2, none⟩ = some (.int .i64 g.rw) ∧ v.cell? ⟨w.heap.size, 3, none⟩ = some (.int .i64 g.cl)) (go_keep) (first | (go_at_call 128; refine (impl_BankCount_is g 0 HB.out _).mono ?_; rintro e w1 ⟨rfl, h1⟩; (try (have hz0 : w.heap.size < w1.heap.size := (by have := h1.size; (try simp at this); omega); have hl0 := (fun o => (bcell h1).1 (w.heap.size) o (by go_size)); have hv0 := (fun o => (bcell h1).2 (w.heap.size) o (by go_size)))); (try (have hz1 : w.heap.size + 1 < w1.heap.size := (by have := h1.size; (try simp at this); omega); have hl1 := (fun o => (bcell h1).1 (w.heap.size + 1) o (by go_size)); have hv1 := (fun o => (bcell h1).2 (w.heap.size + 1) o (by go_size)))); replace h1 : Below w.heap.size w w1 := bthen (by go_grown) h1 (by first | go_size | omega); obtain ⟨hc1, hf1⟩ := bcell h1))
    go_wp2_with fail
    go_ret
    exact ⟨ret_int (by rw [HV.out, show IntKind.i64.wrap 0 = 0 from rfl, Int.zero_mul]; rfl), by assumption⟩
  · have HV := hide (show lineCnt g = g.gr * g.bk * g.rw * g.cl by unfold lineCnt; rw [hok]; rfl)
    have HB := hide (show bankCnt g = g.gr * g.bk by unfold bankCnt; rw [hok]; rfl)
    have hb := bank_bd hok; have hb2 := rows_bd hok; have hb3 := line_bd hok
    have b1 := hb.1; have b2 := hb.2; have b3 := hb2.1; have b4 := hb2.2; have b5 := hb3.1; have b6 := hb3.2
    have z1 : IntKind.i64.wrap (g.gr * g.bk * g.rw) = g.gr * g.bk * g.rw := IntWalk.i64_in _ (by omega)
    have z2 : IntKind.i64.wrap (g.gr * g.bk * g.rw * g.cl) = g.gr * g.bk * g.rw * g.cl := IntWalk.i64_in _ (by omega)
    clear hb hb2 hb3
    go_enter Try.func127, Try.ntmps127
    go_wp2_with fail
    go_region_held3 (fun v => v.cell? ⟨w.heap.size, 0, none⟩ = some (.int .i64 g.gr) ∧ v.cell? ⟨w.heap.size, 1, none⟩ = some (.int .i64 g.bk) ∧ v.cell? ⟨w.heap.size, 2, none⟩ = some (.int .i64 g.rw) ∧ v.cell? ⟨w.heap.size, 3, none⟩ = some (.int .i64 g.cl)) (go_keep) (first | (go_at_call 128; refine (impl_BankCount_is g _ HB.out _).mono ?_; rintro e w1 ⟨rfl, h1⟩; (try (have hz0 : w.heap.size < w1.heap.size := (by have := h1.size; (try simp at this); omega); have hl0 := (fun o => (bcell h1).1 (w.heap.size) o (by go_size)); have hv0 := (fun o => (bcell h1).2 (w.heap.size) o (by go_size)))); (try (have hz1 : w.heap.size + 1 < w1.heap.size := (by have := h1.size; (try simp at this); omega); have hl1 := (fun o => (bcell h1).1 (w.heap.size + 1) o (by go_size)); have hv1 := (fun o => (bcell h1).2 (w.heap.size + 1) o (by go_size)))); replace h1 : Below w.heap.size w w1 := bthen (by go_grown) h1 (by first | go_size | omega); obtain ⟨hc1, hf1⟩ := bcell h1))
    go_wp2_with fail
    go_ret
    exact ⟨ret_int HV.out.symm, by assumption⟩
set_option maxHeartbeats 800000 in
theorem spec_LineCount (g : Ge) (w : World) :
    Calls Try.prog 83 #[.agg #[.int .i64 g.gr, .int .i64 g.bk, .int .i64 g.rw, .int .i64 g.cl]] w fun e w' => e = .returned (.int .i64 (lineCnt g)) ∧ Below w.heap.size w w' := by
  cases hok : geoOk g
  · have HV := hide (show lineCnt g = 0 by unfold lineCnt; rw [hok]; rfl)
    go_enter Try.func83, Try.ntmps83
    go_wp2_with fail
    refine (spec_GeometryOk_is g false hok _).mono ?_
    rintro e w1 ⟨rfl, h1⟩
    have s1 := h1.size
    try simp only [World.size_alloc, World.size_setCell, World.size_drew, World.heap_drewN] at s1
    have B1_1 := h1
    have z1_0 : w.heap.size < w1.heap.size := by omega
    have q1_0 := fun o => (bcell B1_1).1 (w.heap.size) o (by go_size)
    have f1_0 := fun o => (bcell B1_1).2 (w.heap.size) o (by go_size)
    have H1 : Below w.heap.size w w1 := bthen (by repeat' (first | (with_reducible exact Below.refl _ _) | (with_reducible assumption) | (with_reducible refine bdrawn ?_ _) | (with_reducible refine Below.alloc ?_ ?_ _) | (with_reducible refine Below.drew ?_) | (with_reducible refine Below.setCell ?_ ?_ _) | go_size)) h1 (by go_size)
    have C1 := (bcell H1).1; have F1 := (bcell H1).2
    go_wp2_with fail
    go_ret
    exact ⟨ret_int HV.out.symm, H1⟩
  · have HV := hide (show lineCnt g = g.gr * g.bk * g.rw * g.cl by unfold lineCnt; rw [hok]; rfl)
    have HB := hide (show bankCnt g = g.gr * g.bk by unfold bankCnt; rw [hok]; rfl)
    have hb := bank_bd hok; have hb2 := rows_bd hok; have hb3 := line_bd hok
    have b1 := hb.1; have b2 := hb.2; have b3 := hb2.1; have b4 := hb2.2; have b5 := hb3.1; have b6 := hb3.2
    have z1 : IntKind.i64.wrap (g.gr * g.bk * g.rw) = g.gr * g.bk * g.rw := IntWalk.i64_in _ (by omega)
    have z2 : IntKind.i64.wrap (g.gr * g.bk * g.rw * g.cl) = g.gr * g.bk * g.rw * g.cl := IntWalk.i64_in _ (by omega)
    clear hb hb2 hb3
    go_enter Try.func83, Try.ntmps83
    go_wp2_with fail
    refine (spec_GeometryOk_is g true hok _).mono ?_
    rintro e w1 ⟨rfl, h1⟩
    have s1 := h1.size
    try simp only [World.size_alloc, World.size_setCell, World.size_drew, World.heap_drewN] at s1
    have B1_1 := h1
    have z1_0 : w.heap.size < w1.heap.size := by omega
    have q1_0 := fun o => (bcell B1_1).1 (w.heap.size) o (by go_size)
    have f1_0 := fun o => (bcell B1_1).2 (w.heap.size) o (by go_size)
    have H1 : Below w.heap.size w w1 := bthen (by repeat' (first | (with_reducible exact Below.refl _ _) | (with_reducible assumption) | (with_reducible refine bdrawn ?_ _) | (with_reducible refine Below.alloc ?_ ?_ _) | (with_reducible refine Below.drew ?_) | (with_reducible refine Below.setCell ?_ ?_ _) | go_size)) h1 (by go_size)
    have C1 := (bcell H1).1; have F1 := (bcell H1).2
    go_wp2_with fail
    obtain ⟨x1, rfl⟩ : ∃ W : World, W = w1 := ⟨_, rfl⟩
    have e0 := (q1_0 0).trans (by simp : _ = some (.int .i64 g.gr)); have e1 := (q1_0 1).trans (by simp : _ = some (.int .i64 g.bk)); have e2 := (q1_0 2).trans (by simp : _ = some (.int .i64 g.rw)); have e3 := (q1_0 3).trans (by simp : _ = some (.int .i64 g.cl))
    have HX := hide H1
    clear q1_0 f1_0 C1 F1 H1
    go_region_held3 (fun v => v.cell? ⟨w.heap.size, 0, none⟩ = some (.int .i64 g.gr) ∧ v.cell? ⟨w.heap.size, 1, none⟩ = some (.int .i64 g.bk) ∧ v.cell? ⟨w.heap.size, 2, none⟩ = some (.int .i64 g.rw) ∧ v.cell? ⟨w.heap.size, 3, none⟩ = some (.int .i64 g.cl)) (go_keep) (first | (go_at_call 122; refine (spec_BankCount_is g _ HB.out _).mono ?_; rintro e w1 ⟨rfl, h1⟩; (try (have hz0 : x1.heap.size < w1.heap.size := (by have := h1.size; (try simp at this); omega); have hl0 := (fun o => (bcell h1).1 (x1.heap.size) o (by go_size)); have hv0 := (fun o => (bcell h1).2 (x1.heap.size) o (by go_size)))); replace h1 : Below x1.heap.size x1 w1 := bthen (by go_grown) h1 (by first | go_size | omega); obtain ⟨hc1, hf1⟩ := bcell h1))
    go_wp2_with fail
    go_ret
    exact ⟨ret_int HV.out.symm, bthen HX.out (by assumption) (by omega)⟩
end Go.Proofs.Ytahfbhfmhccgoaa
