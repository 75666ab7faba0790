/- The index of a place, and the place of an index, of the program and of the reference. -/
import Derived.Test.YtkhcepmileiejaaArOs
import Derived.StillTailTactics
set_option linter.unusedSimpArgs false
set_option linter.unusedVariables false
namespace Go.Proofs.Ytkhcepmileiejaa
open Go.RowKit Go.ChangeShapes Go.WideShapes Go.ChangeAt Go.Joins Go.Deep
open Go.ChangeMaps (open_string shut_string)
theorem idx_bd {g : Ge} {x : Ad} (h : adOk g x = true) : 0 ≤ x.b * g.rw ∧ x.b * g.rw ≤ 128 ∧ 0 ≤ x.r ∧ x.r ≤ 15 ∧ 0 ≤ x.b * g.rw + x.r ∧ x.b * g.rw + x.r ≤ 128 ∧ 0 ≤ (x.b * g.rw + x.r) * g.cl ∧ (x.b * g.rw + x.r) * g.cl ≤ 1024 ∧ 0 ≤ x.c ∧ x.c ≤ 7 := by
  have hg := adOk_geo h
  obtain ⟨_, _, _, _, h5, h6, h7, h8⟩ := geoOk_bd hg
  have hb := rows_bd hg; have hl := line_bd hg
  simp only [adOk, bankCnt, hg, Bool.and_eq_true, btw_true, if_true] at h
  obtain ⟨⟨b0, b1⟩, ⟨r0, r1⟩, c0, c1⟩ := h
  obtain ⟨k1, k2⟩ := mul_lt_of b0 b1 (n := g.rw) (by omega)
  obtain ⟨k3, k4⟩ := mul_lt_of (a := x.b * g.rw + x.r) (m := g.gr * g.bk * g.rw) (n := g.cl) (by omega) (by omega) (by omega)
  omega
set_option maxHeartbeats 1000000 in
theorem impl_AddrIndex (g : Ge) (x : Ad) (v : Int) (w : World) (h : adOk g x = true) (hv : adIdx g x = v) :
    Calls Try.prog 58 #[.agg #[.int .i64 g.gr, .int .i64 g.bk, .int .i64 g.rw, .int .i64 g.cl], .agg #[.int .i64 x.b, .int .i64 x.r, .int .i64 x.c]] w fun e w' => e = .returned (.int .i64 v) ∧ Below w.heap.size w w' := by
  obtain ⟨b1, b2, b3, b4, b5, b6, b7, b8, b9, b10⟩ := idx_bd h
  have HV := hide (show (x.b * g.rw + x.r) * g.cl + x.c = v from hv)
  have z1 : IntKind.i64.wrap (x.b * g.rw) = x.b * g.rw := IntWalk.i64_in _ (by omega)
  have z3 : IntKind.i64.wrap ((x.b * g.rw + x.r) * g.cl) = (x.b * g.rw + x.r) * g.cl := IntWalk.i64_in _ (by omega)
  clear hv
  go_enter Try.func58, Try.ntmps58
  go_wp2_with fail
  refine (impl_AddrOk g x true _ h).mono ?_
  rintro e w1 ⟨rfl, h1⟩
  have s1 := h1.size
  try simp only [World.size_alloc, World.size_setCell, World.size_drew, World.heap_drewN] at s1
  have B1_1 := h1
  have z1_0 : w.heap.size < w1.heap.size := by omega
  have q1_0 := fun o => (bcell B1_1).1 (w.heap.size) o (by go_size)
  have f1_0 := fun o => (bcell B1_1).2 (w.heap.size) o (by go_size)
  have z1_1 : w.heap.size + 1 < w1.heap.size := by omega
  have q1_1 := fun o => (bcell B1_1).1 (w.heap.size + 1) o (by go_size)
  have f1_1 := fun o => (bcell B1_1).2 (w.heap.size + 1) o (by go_size)
  have H1 : Below w.heap.size w w1 := bthen (by repeat' (first | (with_reducible exact Below.refl _ _) | (with_reducible assumption) | (with_reducible refine bdrawn ?_ _) | (with_reducible refine Below.alloc ?_ ?_ _) | (with_reducible refine Below.drew ?_) | (with_reducible refine Below.setCell ?_ ?_ _) | go_size)) h1 (by go_size)
  have C1 := (bcell H1).1; have F1 := (bcell H1).2
  go_wp2_with fail
  go_ret
  exact ⟨ret_int HV.out, H1⟩
set_option maxHeartbeats 1000000 in
theorem spec_AddrIndex (g : Ge) (x : Ad) (v : Int) (w : World) (h : adOk g x = true) (hv : adIdx g x = v) :
    Calls Try.prog 38 #[.agg #[.int .i64 g.gr, .int .i64 g.bk, .int .i64 g.rw, .int .i64 g.cl], .agg #[.int .i64 x.b, .int .i64 x.r, .int .i64 x.c]] w fun e w' => e = .returned (.int .i64 v) ∧ Below w.heap.size w w' := by
  obtain ⟨b1, b2, b3, b4, b5, b6, b7, b8, b9, b10⟩ := idx_bd h
  have HV := hide (show (x.b * g.rw + x.r) * g.cl + x.c = v from hv)
  have z1 : IntKind.i64.wrap (x.b * g.rw) = x.b * g.rw := IntWalk.i64_in _ (by omega)
  have z3 : IntKind.i64.wrap ((x.b * g.rw + x.r) * g.cl) = (x.b * g.rw + x.r) * g.cl := IntWalk.i64_in _ (by omega)
  clear hv
  go_enter Try.func38, Try.ntmps38
  go_wp2_with fail
  refine (spec_AddrOk g x true _ h).mono ?_
  rintro e w1 ⟨rfl, h1⟩
  have s1 := h1.size
  try simp only [World.size_alloc, World.size_setCell, World.size_drew, World.heap_drewN] at s1
  have B1_1 := h1
  have z1_0 : w.heap.size < w1.heap.size := by omega
  have q1_0 := fun o => (bcell B1_1).1 (w.heap.size) o (by go_size)
  have f1_0 := fun o => (bcell B1_1).2 (w.heap.size) o (by go_size)
  have z1_1 : w.heap.size + 1 < w1.heap.size := by omega
  have q1_1 := fun o => (bcell B1_1).1 (w.heap.size + 1) o (by go_size)
  have f1_1 := fun o => (bcell B1_1).2 (w.heap.size + 1) o (by go_size)
  have H1 : Below w.heap.size w w1 := bthen (by repeat' (first | (with_reducible exact Below.refl _ _) | (with_reducible assumption) | (with_reducible refine bdrawn ?_ _) | (with_reducible refine Below.alloc ?_ ?_ _) | (with_reducible refine Below.drew ?_) | (with_reducible refine Below.setCell ?_ ?_ _) | go_size)) h1 (by go_size)
  have C1 := (bcell H1).1; have F1 := (bcell H1).2
  go_wp2_with fail
  go_ret
  exact ⟨ret_int HV.out, H1⟩
theorem impl_between_is (x a b : Int) (v : Bool) (hv : btw x a b = v) (w : World) :
    Calls Try.prog 72 #[.int .i64 x, .int .i64 a, .int .i64 b] w fun e w' => e = .returned (.bool v) ∧ w = w' := by subst hv; exact impl_between x a b w
theorem spec_l01In_is (x a b : Int) (v : Bool) (hv : btw x a b = v) (w : World) :
    Calls Try.prog 59 #[.int .i64 x, .int .i64 a, .int .i64 b] w fun e w' => e = .returned (.bool v) ∧ w = w' := by subst hv; exact spec_l01In x a b w
/-- The place of a line. -/
def adOf (g : Ge) (n : Int) : Ad := ⟨n / g.cl / g.rw, n / g.cl % g.rw, n % g.cl⟩
theorem adOf_ok {g : Ge} {n : Int} (h : btw n 0 (lineCnt g - 1) = true) : geoOk g = true ∧ adOk g (adOf g n) = true ∧ adIdx g (adOf g n) = n := by
  obtain ⟨h0, h1⟩ := btw_true.1 h
  have hg : geoOk g = true := by
    cases hq : geoOk g
    · unfold lineCnt at h1; rw [hq] at h1; simp at h1; omega
    · rfl
  obtain ⟨_, _, _, _, h5, _, h7, _⟩ := geoOk_bd hg
  have hb := bank_bd hg
  unfold lineCnt at h1
  rw [if_pos hg] at h1
  have e1 := Int.mul_ediv_add_emod n g.cl
  have e2 := Int.mul_ediv_add_emod (n / g.cl) g.rw
  have p1 := Int.emod_nonneg n (show g.cl ≠ 0 by omega)
  have p2 := Int.emod_lt_of_pos n (show 0 < g.cl by omega)
  have p3 := Int.emod_nonneg (n / g.cl) (show g.rw ≠ 0 by omega)
  have p4 := Int.emod_lt_of_pos (n / g.cl) (show 0 < g.rw by omega)
  have q1 : 0 ≤ n / g.cl := Int.ediv_nonneg h0 (by omega)
  have q2 : 0 ≤ n / g.cl / g.rw := Int.ediv_nonneg q1 (by omega)
  have q3 : n / g.cl < g.gr * g.bk * g.rw := Int.ediv_lt_of_lt_mul (by omega) (by omega)
  have q4 : n / g.cl / g.rw < g.gr * g.bk := Int.ediv_lt_of_lt_mul (by omega) q3
  refine ⟨hg, ?_, ?_⟩
  · simp only [adOk, adOf, bankCnt, hg, if_true, Bool.and_eq_true, btw_true]
    exact ⟨⟨q2, by omega⟩, ⟨p3, by omega⟩, p1, by omega⟩
  · show (n / g.cl / g.rw * g.rw + n / g.cl % g.rw) * g.cl + n % g.cl = n
    rw [Int.mul_comm (n / g.cl / g.rw), e2, Int.mul_comm, e1]
set_option maxRecDepth 100000 in
set_option maxHeartbeats 4000000 in
theorem impl_AddrAt_no (g : Ge) (n : Int) (w : World) (hv : btw n 0 (lineCnt g - 1) = false) :
    Calls Try.prog 60 #[.agg #[.int .i64 g.gr, .int .i64 g.bk, .int .i64 g.rw, .int .i64 g.cl], .int .i64 n] w fun e w' => e = .returned (.tuple #[.agg #[.int .i64 0, .int .i64 0, .int .i64 0], .bool false]) ∧ Below w.heap.size w w' := by
  obtain ⟨lc, hlc⟩ : ∃ lc, lineCnt g = lc := ⟨_, rfl⟩
  have hbd := lineCnt_bd g
  rw [hlc] at hbd hv
  have b0 := hbd.1; have b1 := hbd.2
  clear hbd
  go_enter Try.func60, Try.ntmps60
  go_wp2_with fail
  refine (impl_LineCount_is g lc hlc _).mono ?_
  rintro e w1 ⟨rfl, h1⟩
  have s1 := h1.size
  try simp only [World.size_alloc, World.size_setCell, World.size_drew, World.heap_drewN] at s1
  have B1_1 := h1
  have z1_0 : w.heap.size < w1.heap.size := by omega
  have q1_0 := fun o => (bcell B1_1).1 (w.heap.size) o (by go_size)
  have f1_0 := fun o => (bcell B1_1).2 (w.heap.size) o (by go_size)
  have z1_1 : w.heap.size + 1 < w1.heap.size := by omega
  have q1_1 := fun o => (bcell B1_1).1 (w.heap.size + 1) o (by go_size)
  have f1_1 := fun o => (bcell B1_1).2 (w.heap.size + 1) o (by go_size)
  have H1 : Below w.heap.size w w1 := bthen (by repeat' (first | (with_reducible exact Below.refl _ _) | (with_reducible assumption) | (with_reducible refine bdrawn ?_ _) | (with_reducible refine Below.alloc ?_ ?_ _) | (with_reducible refine Below.drew ?_) | (with_reducible refine Below.setCell ?_ ?_ _) | go_size)) h1 (by go_size)
  have C1 := (bcell H1).1; have F1 := (bcell H1).2
  go_wp2_with (first | (go_at_call 72; refine (impl_between_is _ _ _ false hv _).mono ?_; rintro e w2 ⟨rfl, rfl⟩))
  refine bodyPost_ret (by simp [results, Try.results60, go_sem, *]; try rfl) rfl ?_
  exact ⟨rfl, by go_grown⟩
set_option maxRecDepth 100000 in
set_option maxHeartbeats 4000000 in
theorem impl_AddrAt (g : Ge) (n : Int) (b r c : Int) (w : World) (hv : btw n 0 (lineCnt g - 1) = true) (he : adOf g n = ⟨b, r, c⟩) :
    Calls Try.prog 60 #[.agg #[.int .i64 g.gr, .int .i64 g.bk, .int .i64 g.rw, .int .i64 g.cl], .int .i64 n] w fun e w' => e = .returned (.tuple #[.agg #[.int .i64 b, .int .i64 r, .int .i64 c], .bool true]) ∧ Below w.heap.size w w' := by
  obtain ⟨lc, hlc⟩ : ∃ lc, lineCnt g = lc := ⟨_, rfl⟩
  have hbd := lineCnt_bd g
  have hgd := geoOk_bd (adOf_ok hv).1
  have g5 := hgd.2.2.2.2.1; have g6 := hgd.2.2.2.2.2.1; have g7 := hgd.2.2.2.2.2.2.1; have g8 := hgd.2.2.2.2.2.2.2
  rw [hlc] at hbd hv
  have b0 := hbd.1; have b1 := hbd.2
  have n0 := (btw_true.1 hv).1; have n1 := (btw_true.1 hv).2
  simp only [adOf, Ad.mk.injEq] at he
  obtain ⟨X, hX⟩ : ∃ X, n / g.cl = X := ⟨_, rfl⟩
  rw [hX] at he
  have q1 : 0 ≤ X := hX ▸ Int.ediv_nonneg n0 (by omega)
  have q2 : X ≤ n := hX ▸ Int.ediv_le_self _ n0
  have q3 : 0 ≤ b := he.1 ▸ Int.ediv_nonneg q1 (by omega)
  have q4 : b ≤ X := he.1 ▸ Int.ediv_le_self _ q1
  have y1 : n.tdiv g.cl = X := by rw [Int.tdiv_eq_ediv_of_nonneg n0]; exact hX
  have y2 : X.tdiv g.rw = b := by rw [Int.tdiv_eq_ediv_of_nonneg q1]; exact he.1
  have y3 : X.tmod g.rw = r := by rw [Int.tmod_eq_emod_of_nonneg q1]; exact he.2.1
  have y4 : n.tmod g.cl = c := by rw [Int.tmod_eq_emod_of_nonneg n0]; exact he.2.2
  have z1 : (g.cl == 0) = false := by simp; omega
  have z2 : (g.rw == 0) = false := by simp; omega
  have z3 : ¬ g.cl = 0 := by omega
  have z4 : ¬ g.rw = 0 := by omega
  have u1 : IntKind.i64.wrap X = X := IntWalk.i64_in _ (by omega)
  have u2 : IntKind.i64.wrap b = b := IntWalk.i64_in _ (by omega)
  clear hbd hgd he hX
  have Y1 := hide y1; have Y2 := hide y2; have Y3 := hide y3; have Y4 := hide y4
  clear y1 y2 y3 y4
  go_enter Try.func60, Try.ntmps60
  go_wp2_with fail
  refine (impl_LineCount_is g lc hlc _).mono ?_
  rintro e w1 ⟨rfl, h1⟩
  have s1 := h1.size
  try simp only [World.size_alloc, World.size_setCell, World.size_drew, World.heap_drewN] at s1
  have B1_1 := h1
  have z1_0 : w.heap.size < w1.heap.size := by omega
  have q1_0 := fun o => (bcell B1_1).1 (w.heap.size) o (by go_size)
  have f1_0 := fun o => (bcell B1_1).2 (w.heap.size) o (by go_size)
  have z1_1 : w.heap.size + 1 < w1.heap.size := by omega
  have q1_1 := fun o => (bcell B1_1).1 (w.heap.size + 1) o (by go_size)
  have f1_1 := fun o => (bcell B1_1).2 (w.heap.size + 1) o (by go_size)
  have H1 : Below w.heap.size w w1 := bthen (by repeat' (first | (with_reducible exact Below.refl _ _) | (with_reducible assumption) | (with_reducible refine bdrawn ?_ _) | (with_reducible refine Below.alloc ?_ ?_ _) | (with_reducible refine Below.drew ?_) | (with_reducible refine Below.setCell ?_ ?_ _) | go_size)) h1 (by go_size)
  have C1 := (bcell H1).1; have F1 := (bcell H1).2
  go_wp2_with (first | (go_at_call 72; refine (impl_between_is _ _ _ true hv _).mono ?_; rintro e w2 ⟨rfl, rfl⟩))
  have y1 := Y1.out; have y2 := Y2.out; have y3 := Y3.out; have y4 := Y4.out
  go_still_tail 19, (by kernel_rfl)
  go_wp2
  refine bodyPost_ret (by simp [results, Try.results60, go_sem, *]; try rfl) rfl ?_
  exact ⟨rfl, by go_grown⟩
set_option maxRecDepth 100000 in
set_option maxHeartbeats 4000000 in
theorem spec_AddrAt_no (g : Ge) (n : Int) (w : World) (hv : btw n 0 (lineCnt g - 1) = false) :
    Calls Try.prog 33 #[.agg #[.int .i64 g.gr, .int .i64 g.bk, .int .i64 g.rw, .int .i64 g.cl], .int .i64 n] w fun e w' => e = .returned (.tuple #[.agg #[.int .i64 0, .int .i64 0, .int .i64 0], .bool false]) ∧ Below w.heap.size w w' := by
  obtain ⟨lc, hlc⟩ : ∃ lc, lineCnt g = lc := ⟨_, rfl⟩
  have hbd := lineCnt_bd g
  rw [hlc] at hbd hv
  have b0 := hbd.1; have b1 := hbd.2
  clear hbd
  go_enter Try.func33, Try.ntmps33
  go_wp2_with fail
  refine (spec_LineCount_is g lc hlc _).mono ?_
  rintro e w1 ⟨rfl, h1⟩
  have s1 := h1.size
  try simp only [World.size_alloc, World.size_setCell, World.size_drew, World.heap_drewN] at s1
  have B1_1 := h1
  have z1_0 : w.heap.size < w1.heap.size := by omega
  have q1_0 := fun o => (bcell B1_1).1 (w.heap.size) o (by go_size)
  have f1_0 := fun o => (bcell B1_1).2 (w.heap.size) o (by go_size)
  have z1_1 : w.heap.size + 1 < w1.heap.size := by omega
  have q1_1 := fun o => (bcell B1_1).1 (w.heap.size + 1) o (by go_size)
  have f1_1 := fun o => (bcell B1_1).2 (w.heap.size + 1) o (by go_size)
  have H1 : Below w.heap.size w w1 := bthen (by repeat' (first | (with_reducible exact Below.refl _ _) | (with_reducible assumption) | (with_reducible refine bdrawn ?_ _) | (with_reducible refine Below.alloc ?_ ?_ _) | (with_reducible refine Below.drew ?_) | (with_reducible refine Below.setCell ?_ ?_ _) | go_size)) h1 (by go_size)
  have C1 := (bcell H1).1; have F1 := (bcell H1).2
  go_wp2_with (first | (go_at_call 59; refine (spec_l01In_is _ _ _ false hv _).mono ?_; rintro e w2 ⟨rfl, rfl⟩))
  refine bodyPost_ret (by simp [results, Try.results33, go_sem, *]; try rfl) rfl ?_
  exact ⟨rfl, by go_grown⟩
set_option maxRecDepth 100000 in
set_option maxHeartbeats 4000000 in
theorem spec_AddrAt (g : Ge) (n : Int) (b r c : Int) (w : World) (hv : btw n 0 (lineCnt g - 1) = true) (he : adOf g n = ⟨b, r, c⟩) :
    Calls Try.prog 33 #[.agg #[.int .i64 g.gr, .int .i64 g.bk, .int .i64 g.rw, .int .i64 g.cl], .int .i64 n] w fun e w' => e = .returned (.tuple #[.agg #[.int .i64 b, .int .i64 r, .int .i64 c], .bool true]) ∧ Below w.heap.size w w' := by
  obtain ⟨lc, hlc⟩ : ∃ lc, lineCnt g = lc := ⟨_, rfl⟩
  have hbd := lineCnt_bd g
  have hgd := geoOk_bd (adOf_ok hv).1
  have g5 := hgd.2.2.2.2.1; have g6 := hgd.2.2.2.2.2.1; have g7 := hgd.2.2.2.2.2.2.1; have g8 := hgd.2.2.2.2.2.2.2
  rw [hlc] at hbd hv
  have b0 := hbd.1; have b1 := hbd.2
  have n0 := (btw_true.1 hv).1; have n1 := (btw_true.1 hv).2
  simp only [adOf, Ad.mk.injEq] at he
  obtain ⟨X, hX⟩ : ∃ X, n / g.cl = X := ⟨_, rfl⟩
  rw [hX] at he
  have q1 : 0 ≤ X := hX ▸ Int.ediv_nonneg n0 (by omega)
  have q2 : X ≤ n := hX ▸ Int.ediv_le_self _ n0
  have q3 : 0 ≤ b := he.1 ▸ Int.ediv_nonneg q1 (by omega)
  have q4 : b ≤ X := he.1 ▸ Int.ediv_le_self _ q1
  have y1 : n.tdiv g.cl = X := by rw [Int.tdiv_eq_ediv_of_nonneg n0]; exact hX
  have y2 : X.tdiv g.rw = b := by rw [Int.tdiv_eq_ediv_of_nonneg q1]; exact he.1
  have y3 : X.tmod g.rw = r := by rw [Int.tmod_eq_emod_of_nonneg q1]; exact he.2.1
  have y4 : n.tmod g.cl = c := by rw [Int.tmod_eq_emod_of_nonneg n0]; exact he.2.2
  have z1 : (g.cl == 0) = false := by simp; omega
  have z2 : (g.rw == 0) = false := by simp; omega
  have z3 : ¬ g.cl = 0 := by omega
  have z4 : ¬ g.rw = 0 := by omega
  have u1 : IntKind.i64.wrap X = X := IntWalk.i64_in _ (by omega)
  have u2 : IntKind.i64.wrap b = b := IntWalk.i64_in _ (by omega)
  clear hbd hgd he hX
  have Y1 := hide y1; have Y2 := hide y2; have Y3 := hide y3; have Y4 := hide y4
  clear y1 y2 y3 y4
  go_enter Try.func33, Try.ntmps33
  go_wp2_with fail
  refine (spec_LineCount_is g lc hlc _).mono ?_
  rintro e w1 ⟨rfl, h1⟩
  have s1 := h1.size
  try simp only [World.size_alloc, World.size_setCell, World.size_drew, World.heap_drewN] at s1
  have B1_1 := h1
  have z1_0 : w.heap.size < w1.heap.size := by omega
  have q1_0 := fun o => (bcell B1_1).1 (w.heap.size) o (by go_size)
  have f1_0 := fun o => (bcell B1_1).2 (w.heap.size) o (by go_size)
  have z1_1 : w.heap.size + 1 < w1.heap.size := by omega
  have q1_1 := fun o => (bcell B1_1).1 (w.heap.size + 1) o (by go_size)
  have f1_1 := fun o => (bcell B1_1).2 (w.heap.size + 1) o (by go_size)
  have H1 : Below w.heap.size w w1 := bthen (by repeat' (first | (with_reducible exact Below.refl _ _) | (with_reducible assumption) | (with_reducible refine bdrawn ?_ _) | (with_reducible refine Below.alloc ?_ ?_ _) | (with_reducible refine Below.drew ?_) | (with_reducible refine Below.setCell ?_ ?_ _) | go_size)) h1 (by go_size)
  have C1 := (bcell H1).1; have F1 := (bcell H1).2
  go_wp2_with (first | (go_at_call 59; refine (spec_l01In_is _ _ _ true hv _).mono ?_; rintro e w2 ⟨rfl, rfl⟩))
  have y1 := Y1.out; have y2 := Y2.out; have y3 := Y3.out; have y4 := Y4.out
  go_still_tail 19, (by kernel_rfl)
  go_wp2
  refine bodyPost_ret (by simp [results, Try.results33, go_sem, *]; try rfl) rfl ?_
  exact ⟨rfl, by go_grown⟩
end Go.Proofs.Ytkhcepmileiejaa
