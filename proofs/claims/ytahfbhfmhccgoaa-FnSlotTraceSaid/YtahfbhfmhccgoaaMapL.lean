/- The place of a line under a mapping, of the program and of the reference. -/
import Derived.Test.YtahfbhfmhccgoaaAddrT
import Derived.StillTailTactics
set_option linter.unusedSimpArgs false
set_option linter.unusedVariables false
namespace Go.Proofs.Ytahfbhfmhccgoaa
open Go.RowKit Go.ChangeShapes Go.WideShapes Go.ChangeAt Go.Joins Go.Deep
open Go.ChangeMaps (open_string shut_string)
def mapL (g : Ge) (mo : Int) (mh : Bool) (n : Int) : Ad :=
  let a : Ad := if mo = 0 then ⟨n / g.cl % bankCnt g, n / g.cl / bankCnt g, n % g.cl⟩ else if mo = 1 then ⟨n % bankCnt g, n / bankCnt g / g.cl, n / bankCnt g % g.cl⟩ else ⟨n / g.cl / g.rw, n / g.cl % g.rw, n % g.cl⟩
  if mh = true then ⟨(a.b + a.r) % bankCnt g, a.r, a.c⟩ else a
theorem btw_eq (f : FuncId) (x a b : Int) (v : Bool) (w : World) (hv : btw x a b = v) (h : Calls Try.prog f #[.int .i64 x, .int .i64 a, .int .i64 b] w fun e w' => e = .returned (.bool (btw x a b)) ∧ w = w') :
    Calls Try.prog f #[.int .i64 x, .int .i64 a, .int .i64 b] w fun e w' => e = .returned (.bool v) ∧ w = w' := by subst hv; exact h
def mapOk (g : Ge) (mo n : Int) : Bool := btw mo 0 2 && btw n 0 (lineCnt g - 1)
theorem mapOk_bd {g : Ge} {mo n : Int} (h : mapOk g mo n = true) : geoOk g = true ∧ (0 ≤ mo ∧ mo ≤ 2) ∧ 0 ≤ n ∧ n < g.gr * g.bk * g.rw * g.cl ∧ btw n 0 (lineCnt g - 1) = true ∧ btw mo 0 2 = true := by
  simp only [mapOk, Bool.and_eq_true] at h
  obtain ⟨h1, h2⟩ := h
  have h3 := btw_true.1 h2
  have hg : geoOk g = true := by
    cases hq : geoOk g
    · have := h3.2; unfold lineCnt at this; rw [hq] at this; simp at this; omega
    · rfl
  have h4 := h3.2
  unfold lineCnt at h4; rw [if_pos hg] at h4
  exact ⟨hg, btw_true.1 h1, h3.1, by omega, h2, h1⟩
/-- The place is one of the geometry's. -/
theorem mapL_ok {g : Ge} {mo n : Int} (mh : Bool) (h : mapOk g mo n = true) : adOk g (mapL g mo mh n) = true := by
  obtain ⟨hg, _, n0, n1, _⟩ := mapOk_bd h
  obtain ⟨_, _, _, _, h5, h6, h7, h8⟩ := geoOk_bd hg
  have hb := bank_bd hg
  have hk : bankCnt g = g.gr * g.bk := by unfold bankCnt; rw [if_pos hg]
  have e : g.gr * g.bk * g.rw * g.cl = bankCnt g * g.rw * g.cl := by rw [hk]
  rw [e] at n1
  rw [← hk] at hb
  generalize hK : bankCnt g = k at *
  have hbase : ∀ b r c : Int, 0 ≤ b ∧ b < k → 0 ≤ r ∧ r < g.rw → 0 ≤ c ∧ c < g.cl → ∀ mh : Bool, adOk g (if mh = true then ⟨(b + r) % k, r, c⟩ else ⟨b, r, c⟩) = true := by
    intro b r c h1 h2 h3 mh
    cases mh
    · simp only [adOk, hK, Bool.false_eq_true, if_false, Bool.and_eq_true, btw_true]; omega
    · have p1 := Int.emod_nonneg (b + r) (show k ≠ 0 by omega)
      have p2 := Int.emod_lt_of_pos (b + r) (show 0 < k by omega)
      simp only [adOk, hK, if_true, Bool.and_eq_true, btw_true]; omega
  have hcl : 0 ≤ n % g.cl ∧ n % g.cl < g.cl := ⟨Int.emod_nonneg _ (by omega), Int.emod_lt_of_pos _ (by omega)⟩
  have q1 : 0 ≤ n / g.cl := Int.ediv_nonneg n0 (by omega)
  have q2 : n / g.cl < k * g.rw := Int.ediv_lt_of_lt_mul (by omega) n1
  unfold mapL
  rw [hK]
  by_cases m0 : mo = 0
  · simp only [m0, if_true]
    exact hbase _ _ _ ⟨Int.emod_nonneg _ (by omega), Int.emod_lt_of_pos _ (by omega)⟩ ⟨Int.ediv_nonneg q1 (by omega), Int.ediv_lt_of_lt_mul (by omega) (by rw [Int.mul_comm]; exact q2)⟩ hcl mh
  · by_cases m1 : mo = 1
    · simp only [m1, if_neg (show ¬ (1 : Int) = 0 by omega), if_true]
      have q3 : 0 ≤ n / k := Int.ediv_nonneg n0 (by omega)
      have q4 : n / k < g.rw * g.cl := Int.ediv_lt_of_lt_mul (by omega) (by rw [Int.mul_comm, ← Int.mul_assoc]; exact n1)
      exact hbase _ _ _ ⟨Int.emod_nonneg _ (by omega), Int.emod_lt_of_pos _ (by omega)⟩ ⟨Int.ediv_nonneg q3 (by omega), Int.ediv_lt_of_lt_mul (by omega) q4⟩ ⟨Int.emod_nonneg _ (by omega), Int.emod_lt_of_pos _ (by omega)⟩ mh
    · simp only [if_neg m0, if_neg m1]
      exact hbase _ _ _ ⟨Int.ediv_nonneg q1 (by omega), Int.ediv_lt_of_lt_mul (by omega) q2⟩ ⟨Int.emod_nonneg _ (by omega), Int.emod_lt_of_pos _ (by omega)⟩ hcl mh
theorem adOk_num {g : Ge} {b r c : Int} (h : adOk g ⟨b, r, c⟩ = true) : (0 ≤ b ∧ b ≤ 7) ∧ (0 ≤ r ∧ r ≤ 15) ∧ (0 ≤ c ∧ c ≤ 7) ∧ b < bankCnt g := by
  have hg := adOk_geo h
  obtain ⟨_, _, _, _, h5, h6, h7, h8⟩ := geoOk_bd hg
  have := bankCnt_bd g
  simp only [adOk, Bool.and_eq_true, btw_true] at h
  omega
set_option maxHeartbeats 800000 in
theorem impl_MappingOk (mo : Int) (mh v : Bool) (hv : btw mo 0 2 = v) (w : World) :
    Calls Try.prog 96 #[.agg #[.int .i64 mo, .bool mh]] w fun e w' => e = .returned (.bool v) ∧ Below w.heap.size w w' := by
  go_enter Try.func96, Try.ntmps96
  go_wp2_with (go_at_call 77; refine (btw_eq 77 _ _ _ v _ hv (impl_between _ _ _ _)).mono ?_; rintro e w1 ⟨rfl, rfl⟩)
  go_ret
  exact ⟨rfl, by go_grown⟩
set_option maxHeartbeats 800000 in
theorem spec_MappingOk (mo : Int) (mh v : Bool) (hv : btw mo 0 2 = v) (w : World) :
    Calls Try.prog 105 #[.agg #[.int .i64 mo, .bool mh]] w fun e w' => e = .returned (.bool v) ∧ Below w.heap.size w w' := by
  go_enter Try.func105, Try.ntmps105
  go_wp2_with (go_at_call 78; refine (btw_eq 78 _ _ _ v _ hv (spec_l01In _ _ _ _)).mono ?_; rintro e w1 ⟨rfl, rfl⟩)
  go_ret
  exact ⟨rfl, by go_grown⟩
theorem impl_LineCount_is (g : Ge) (v : Int) (h : lineCnt g = v) (w : World) :
    Calls Try.prog 127 #[.agg #[.int .i64 g.gr, .int .i64 g.bk, .int .i64 g.rw, .int .i64 g.cl]] w fun e w' => e = .returned (.int .i64 v) ∧ Below w.heap.size w w' := by subst h; exact impl_LineCount g w
theorem spec_LineCount_is (g : Ge) (v : Int) (h : lineCnt g = v) (w : World) :
    Calls Try.prog 83 #[.agg #[.int .i64 g.gr, .int .i64 g.bk, .int .i64 g.rw, .int .i64 g.cl]] w fun e w' => e = .returned (.int .i64 v) ∧ Below w.heap.size w w' := by subst h; exact spec_LineCount g w
set_option maxRecDepth 100000 in
set_option maxHeartbeats 4000000 in
theorem impl_MapLine_no (g : Ge) (mo n : Int) (mh : Bool) (hv : mapOk g mo n = false) (w : World) :
    Calls Try.prog 97 #[.agg #[.int .i64 g.gr, .int .i64 g.bk, .int .i64 g.rw, .int .i64 g.cl], .agg #[.int .i64 mo, .bool mh], .int .i64 n] w fun e w' => e = .returned (.tuple #[.agg #[.int .i64 0, .int .i64 0, .int .i64 0], .bool false]) ∧ Below w.heap.size w w' := by
  cases hg : geoOk g
  · go_enter Try.func97, Try.ntmps97
    go_wp2_with fail
    refine (impl_GeometryOk_is g false hg _).mono ?_
    rintro e w1 ⟨rfl, h1⟩
    have s1 := h1.size
    try simp only [World.size_alloc, World.size_setCell, World.size_drew, World.heap_drewN] at s1
    have B1_1 := h1
    have z1_0 : w.heap.size < w1.heap.size := by omega
    have q1_0 := fun o => (bcell B1_1).1 (w.heap.size) o (by go_size)
    have f1_0 := fun o => (bcell B1_1).2 (w.heap.size) o (by go_size)
    have z1_1 : w.heap.size + 1 < w1.heap.size := by omega
    have q1_1 := fun o => (bcell B1_1).1 (w.heap.size + 1) o (by go_size)
    have f1_1 := fun o => (bcell B1_1).2 (w.heap.size + 1) o (by go_size)
    have z1_2 : w.heap.size + 1 + 1 < w1.heap.size := by omega
    have q1_2 := fun o => (bcell B1_1).1 (w.heap.size + 1 + 1) o (by go_size)
    have f1_2 := fun o => (bcell B1_1).2 (w.heap.size + 1 + 1) o (by go_size)
    have H1 : Below w.heap.size w w1 := bthen (by repeat' (first | (with_reducible exact Below.refl _ _) | (with_reducible assumption) | (with_reducible refine bdrawn ?_ _) | (with_reducible refine Below.alloc ?_ ?_ _) | (with_reducible refine Below.drew ?_) | (with_reducible refine Below.setCell ?_ ?_ _) | go_size)) h1 (by go_size)
    have C1 := (bcell H1).1; have F1 := (bcell H1).2
    go_wp2_with fail
    refine bodyPost_ret (by simp [results, Try.results97, go_sem, *]; try rfl) rfl ?_
    exact ⟨rfl, by go_grown⟩
  · cases hmo : btw mo 0 2
    · go_enter Try.func97, Try.ntmps97
      go_wp2_with fail
      refine (impl_GeometryOk_is g true hg _).mono ?_
      rintro e w1 ⟨rfl, h1⟩
      have s1 := h1.size
      try simp only [World.size_alloc, World.size_setCell, World.size_drew, World.heap_drewN] at s1
      have B1_1 := h1
      have z1_0 : w.heap.size < w1.heap.size := by omega
      have q1_0 := fun o => (bcell B1_1).1 (w.heap.size) o (by go_size)
      have f1_0 := fun o => (bcell B1_1).2 (w.heap.size) o (by go_size)
      have z1_1 : w.heap.size + 1 < w1.heap.size := by omega
      have q1_1 := fun o => (bcell B1_1).1 (w.heap.size + 1) o (by go_size)
      have f1_1 := fun o => (bcell B1_1).2 (w.heap.size + 1) o (by go_size)
      have z1_2 : w.heap.size + 1 + 1 < w1.heap.size := by omega
      have q1_2 := fun o => (bcell B1_1).1 (w.heap.size + 1 + 1) o (by go_size)
      have f1_2 := fun o => (bcell B1_1).2 (w.heap.size + 1 + 1) o (by go_size)
      have H1 : Below w.heap.size w w1 := bthen (by repeat' (first | (with_reducible exact Below.refl _ _) | (with_reducible assumption) | (with_reducible refine bdrawn ?_ _) | (with_reducible refine Below.alloc ?_ ?_ _) | (with_reducible refine Below.drew ?_) | (with_reducible refine Below.setCell ?_ ?_ _) | go_size)) h1 (by go_size)
      have C1 := (bcell H1).1; have F1 := (bcell H1).2
      go_wp2_with fail
      refine (impl_MappingOk mo mh false hmo _).mono ?_
      rintro e w2 ⟨rfl, h2⟩
      have s2 := h2.size
      try simp only [World.size_alloc, World.size_setCell, World.size_drew, World.heap_drewN] at s2
      have B2_1 := bnext (by first | (with_reducible exact B1_1) | exact (bgrow B1_1 (by go_size) (by repeat' (first | (with_reducible exact Below.refl _ _) | (with_reducible assumption) | (with_reducible refine bdrawn ?_ _) | (with_reducible refine Below.alloc ?_ ?_ _) | (with_reducible refine Below.drew ?_) | (with_reducible refine Below.setCell ?_ ?_ _) | go_size)))) h2 (by go_size)
      have z2_0 : w.heap.size < w2.heap.size := by omega
      have q2_0 := fun o => (bcell B2_1).1 (w.heap.size) o (by go_size)
      have f2_0 := fun o => (bcell B2_1).2 (w.heap.size) o (by go_size)
      have z2_1 : w.heap.size + 1 < w2.heap.size := by omega
      have q2_1 := fun o => (bcell B2_1).1 (w.heap.size + 1) o (by go_size)
      have f2_1 := fun o => (bcell B2_1).2 (w.heap.size + 1) o (by go_size)
      have z2_2 : w.heap.size + 1 + 1 < w2.heap.size := by omega
      have q2_2 := fun o => (bcell B2_1).1 (w.heap.size + 1 + 1) o (by go_size)
      have f2_2 := fun o => (bcell B2_1).2 (w.heap.size + 1 + 1) o (by go_size)
      have H2 : Below w.heap.size w w2 := bthen (by repeat' (first | (with_reducible exact Below.refl _ _) | (with_reducible assumption) | (with_reducible refine bdrawn ?_ _) | (with_reducible refine Below.alloc ?_ ?_ _) | (with_reducible refine Below.drew ?_) | (with_reducible refine Below.setCell ?_ ?_ _) | go_size)) h2 (by go_size)
      have C2 := (bcell H2).1; have F2 := (bcell H2).2
      go_wp2_with fail
      refine bodyPost_ret (by simp [results, Try.results97, go_sem, *]; try rfl) rfl ?_
      exact ⟨rfl, by go_grown⟩
    · obtain ⟨lc, hlc⟩ : ∃ lc, lineCnt g = lc := ⟨_, rfl⟩
      have hbd := lineCnt_bd g
      rw [hlc] at hbd
      have b0 := hbd.1; have b1 := hbd.2
      have hbt : btw n 0 (lc - 1) = false := by rw [mapOk, hmo, hlc] at hv; simpa using hv
      clear hbd hv
      go_enter Try.func97, Try.ntmps97
      go_wp2_with fail
      refine (impl_GeometryOk_is g true hg _).mono ?_
      rintro e w1 ⟨rfl, h1⟩
      have s1 := h1.size
      try simp only [World.size_alloc, World.size_setCell, World.size_drew, World.heap_drewN] at s1
      have B1_1 := h1
      have z1_0 : w.heap.size < w1.heap.size := by omega
      have q1_0 := fun o => (bcell B1_1).1 (w.heap.size) o (by go_size)
      have f1_0 := fun o => (bcell B1_1).2 (w.heap.size) o (by go_size)
      have z1_1 : w.heap.size + 1 < w1.heap.size := by omega
      have q1_1 := fun o => (bcell B1_1).1 (w.heap.size + 1) o (by go_size)
      have f1_1 := fun o => (bcell B1_1).2 (w.heap.size + 1) o (by go_size)
      have z1_2 : w.heap.size + 1 + 1 < w1.heap.size := by omega
      have q1_2 := fun o => (bcell B1_1).1 (w.heap.size + 1 + 1) o (by go_size)
      have f1_2 := fun o => (bcell B1_1).2 (w.heap.size + 1 + 1) o (by go_size)
      have H1 : Below w.heap.size w w1 := bthen (by repeat' (first | (with_reducible exact Below.refl _ _) | (with_reducible assumption) | (with_reducible refine bdrawn ?_ _) | (with_reducible refine Below.alloc ?_ ?_ _) | (with_reducible refine Below.drew ?_) | (with_reducible refine Below.setCell ?_ ?_ _) | go_size)) h1 (by go_size)
      have C1 := (bcell H1).1; have F1 := (bcell H1).2
      go_wp2_with fail
      refine (impl_MappingOk mo mh true hmo _).mono ?_
      rintro e w2 ⟨rfl, h2⟩
      have s2 := h2.size
      try simp only [World.size_alloc, World.size_setCell, World.size_drew, World.heap_drewN] at s2
      have B2_1 := bnext (by first | (with_reducible exact B1_1) | exact (bgrow B1_1 (by go_size) (by repeat' (first | (with_reducible exact Below.refl _ _) | (with_reducible assumption) | (with_reducible refine bdrawn ?_ _) | (with_reducible refine Below.alloc ?_ ?_ _) | (with_reducible refine Below.drew ?_) | (with_reducible refine Below.setCell ?_ ?_ _) | go_size)))) h2 (by go_size)
      have z2_0 : w.heap.size < w2.heap.size := by omega
      have q2_0 := fun o => (bcell B2_1).1 (w.heap.size) o (by go_size)
      have f2_0 := fun o => (bcell B2_1).2 (w.heap.size) o (by go_size)
      have z2_1 : w.heap.size + 1 < w2.heap.size := by omega
      have q2_1 := fun o => (bcell B2_1).1 (w.heap.size + 1) o (by go_size)
      have f2_1 := fun o => (bcell B2_1).2 (w.heap.size + 1) o (by go_size)
      have z2_2 : w.heap.size + 1 + 1 < w2.heap.size := by omega
      have q2_2 := fun o => (bcell B2_1).1 (w.heap.size + 1 + 1) o (by go_size)
      have f2_2 := fun o => (bcell B2_1).2 (w.heap.size + 1 + 1) o (by go_size)
      have H2 : Below w.heap.size w w2 := bthen (by repeat' (first | (with_reducible exact Below.refl _ _) | (with_reducible assumption) | (with_reducible refine bdrawn ?_ _) | (with_reducible refine Below.alloc ?_ ?_ _) | (with_reducible refine Below.drew ?_) | (with_reducible refine Below.setCell ?_ ?_ _) | go_size)) h2 (by go_size)
      have C2 := (bcell H2).1; have F2 := (bcell H2).2
      go_wp2_with fail
      refine (impl_LineCount_is g lc hlc _).mono ?_
      rintro e w3 ⟨rfl, h3⟩
      have s3 := h3.size
      try simp only [World.size_alloc, World.size_setCell, World.size_drew, World.heap_drewN] at s3
      have B3_1 := bnext (by first | (with_reducible exact B2_1) | exact (bgrow B2_1 (by go_size) (by repeat' (first | (with_reducible exact Below.refl _ _) | (with_reducible assumption) | (with_reducible refine bdrawn ?_ _) | (with_reducible refine Below.alloc ?_ ?_ _) | (with_reducible refine Below.drew ?_) | (with_reducible refine Below.setCell ?_ ?_ _) | go_size)))) h3 (by go_size)
      have z3_0 : w.heap.size < w3.heap.size := by omega
      have q3_0 := fun o => (bcell B3_1).1 (w.heap.size) o (by go_size)
      have f3_0 := fun o => (bcell B3_1).2 (w.heap.size) o (by go_size)
      have z3_1 : w.heap.size + 1 < w3.heap.size := by omega
      have q3_1 := fun o => (bcell B3_1).1 (w.heap.size + 1) o (by go_size)
      have f3_1 := fun o => (bcell B3_1).2 (w.heap.size + 1) o (by go_size)
      have z3_2 : w.heap.size + 1 + 1 < w3.heap.size := by omega
      have q3_2 := fun o => (bcell B3_1).1 (w.heap.size + 1 + 1) o (by go_size)
      have f3_2 := fun o => (bcell B3_1).2 (w.heap.size + 1 + 1) o (by go_size)
      have H3 : Below w.heap.size w w3 := bthen (by repeat' (first | (with_reducible exact Below.refl _ _) | (with_reducible assumption) | (with_reducible refine bdrawn ?_ _) | (with_reducible refine Below.alloc ?_ ?_ _) | (with_reducible refine Below.drew ?_) | (with_reducible refine Below.setCell ?_ ?_ _) | go_size)) h3 (by go_size)
      have C3 := (bcell H3).1; have F3 := (bcell H3).2
      go_wp2_with (first | (go_at_call 77; refine (btw_eq 77 _ _ _ false _ hbt (impl_between _ _ _ _)).mono ?_; rintro e wq ⟨rfl, rfl⟩))
      refine bodyPost_ret (by simp [results, Try.results97, go_sem, *]; try rfl) rfl ?_
      exact ⟨rfl, by go_grown⟩
set_option maxRecDepth 100000 in
set_option maxHeartbeats 4000000 in
theorem impl_MapLine_0f (g : Ge) (n b r c : Int) (w : World) (hv : mapOk g 0 n = true) (he : mapL g 0 false n = ⟨b, r, c⟩) :
    Calls Try.prog 97 #[.agg #[.int .i64 g.gr, .int .i64 g.bk, .int .i64 g.rw, .int .i64 g.cl], .agg #[.int .i64 0, .bool false], .int .i64 n] w fun e w' => e = .returned (.tuple #[.agg #[.int .i64 b, .int .i64 r, .int .i64 c], .bool true]) ∧ Below w.heap.size w w' := by
  obtain ⟨hg, _, n0, n1, hbt, hmo⟩ := mapOk_bd hv
  obtain ⟨lc, hlc⟩ : ∃ lc, lineCnt g = lc := ⟨_, rfl⟩
  obtain ⟨bc, hbc⟩ : ∃ bc, bankCnt g = bc := ⟨_, rfl⟩
  have hbd := lineCnt_bd g; have hkb := bank_bd hg
  have hgd := geoOk_bd hg
  rw [show g.gr * g.bk = bc by rw [← hbc]; unfold bankCnt; rw [if_pos hg]] at hkb
  have k1 := hkb.1; have k2 := hkb.2
  have g5 := hgd.2.2.2.2.1; have g6 := hgd.2.2.2.2.2.1; have g7 := hgd.2.2.2.2.2.2.1; have g8 := hgd.2.2.2.2.2.2.2
  have had := mapL_ok false hv
  rw [he] at had
  have had := adOk_num had
  rw [hlc] at hbd hbt
  have b0 := hbd.1; have b1 := hbd.2
  have n2 : n ≤ lc - 1 := (btw_true.1 hbt).2
  have d1 := had.1; have d2 := had.2.1; have d3 := had.2.2.1; have d4 := had.2.2.2
  simp only [mapL, hbc, Bool.false_eq_true, if_false, Ad.mk.injEq, if_true] at he
  obtain ⟨X, hX⟩ : ∃ X, n / g.cl = X := ⟨_, rfl⟩
  rw [hX] at he
  have q1 : 0 ≤ X := hX ▸ Int.ediv_nonneg n0 (by omega)
  have q2 : X ≤ n := hX ▸ Int.ediv_le_self _ n0
  have y1 : n.tdiv g.cl = X := by rw [Int.tdiv_eq_ediv_of_nonneg n0]; exact hX
  have y2 : X.tdiv bc = r := by rw [Int.tdiv_eq_ediv_of_nonneg q1]; exact he.2.1
  have y3 : X.tmod bc = b := by rw [Int.tmod_eq_emod_of_nonneg q1]; exact he.1
  have y4 : n.tmod g.cl = c := by rw [Int.tmod_eq_emod_of_nonneg n0]; exact he.2.2
  have z1 : (g.cl == 0) = false := by simp; omega
  have z2 : (bc == 0) = false := by simp; omega
  have z3 : ¬ g.cl = 0 := by omega
  have z4 : ¬ bc = 0 := by omega
  have u1 : IntKind.i64.wrap X = X := IntWalk.i64_in _ (by omega)
  have u2 : IntKind.i64.wrap r = r := IntWalk.i64_in _ (by omega)
  have Y := hide (And.intro y1 (And.intro y2 (And.intro y3 y4)))
  skip
  clear y1 y2 y3 y4 hbd hgd hkb he hX had hv n1
  go_enter Try.func97, Try.ntmps97
  go_wp2_with fail
  refine (impl_GeometryOk_is g true hg _).mono ?_
  rintro e w1 ⟨rfl, h1⟩
  have s1 := h1.size
  try simp only [World.size_alloc, World.size_setCell, World.size_drew, World.heap_drewN] at s1
  have B1_1 := h1
  have z1_0 : w.heap.size < w1.heap.size := by omega
  have q1_0 := fun o => (bcell B1_1).1 (w.heap.size) o (by go_size)
  have f1_0 := fun o => (bcell B1_1).2 (w.heap.size) o (by go_size)
  have z1_1 : w.heap.size + 1 < w1.heap.size := by omega
  have q1_1 := fun o => (bcell B1_1).1 (w.heap.size + 1) o (by go_size)
  have f1_1 := fun o => (bcell B1_1).2 (w.heap.size + 1) o (by go_size)
  have z1_2 : w.heap.size + 1 + 1 < w1.heap.size := by omega
  have q1_2 := fun o => (bcell B1_1).1 (w.heap.size + 1 + 1) o (by go_size)
  have f1_2 := fun o => (bcell B1_1).2 (w.heap.size + 1 + 1) o (by go_size)
  have H1 : Below w.heap.size w w1 := bthen (by repeat' (first | (with_reducible exact Below.refl _ _) | (with_reducible assumption) | (with_reducible refine bdrawn ?_ _) | (with_reducible refine Below.alloc ?_ ?_ _) | (with_reducible refine Below.drew ?_) | (with_reducible refine Below.setCell ?_ ?_ _) | go_size)) h1 (by go_size)
  have C1 := (bcell H1).1; have F1 := (bcell H1).2
  go_wp2_with fail
  refine (impl_MappingOk 0 false true hmo _).mono ?_
  rintro e w2 ⟨rfl, h2⟩
  have s2 := h2.size
  try simp only [World.size_alloc, World.size_setCell, World.size_drew, World.heap_drewN] at s2
  have B2_1 := bnext (by first | (with_reducible exact B1_1) | exact (bgrow B1_1 (by go_size) (by repeat' (first | (with_reducible exact Below.refl _ _) | (with_reducible assumption) | (with_reducible refine bdrawn ?_ _) | (with_reducible refine Below.alloc ?_ ?_ _) | (with_reducible refine Below.drew ?_) | (with_reducible refine Below.setCell ?_ ?_ _) | go_size)))) h2 (by go_size)
  have z2_0 : w.heap.size < w2.heap.size := by omega
  have q2_0 := fun o => (bcell B2_1).1 (w.heap.size) o (by go_size)
  have f2_0 := fun o => (bcell B2_1).2 (w.heap.size) o (by go_size)
  have z2_1 : w.heap.size + 1 < w2.heap.size := by omega
  have q2_1 := fun o => (bcell B2_1).1 (w.heap.size + 1) o (by go_size)
  have f2_1 := fun o => (bcell B2_1).2 (w.heap.size + 1) o (by go_size)
  have z2_2 : w.heap.size + 1 + 1 < w2.heap.size := by omega
  have q2_2 := fun o => (bcell B2_1).1 (w.heap.size + 1 + 1) o (by go_size)
  have f2_2 := fun o => (bcell B2_1).2 (w.heap.size + 1 + 1) o (by go_size)
  have H2 : Below w.heap.size w w2 := bthen (by repeat' (first | (with_reducible exact Below.refl _ _) | (with_reducible assumption) | (with_reducible refine bdrawn ?_ _) | (with_reducible refine Below.alloc ?_ ?_ _) | (with_reducible refine Below.drew ?_) | (with_reducible refine Below.setCell ?_ ?_ _) | go_size)) h2 (by go_size)
  have C2 := (bcell H2).1; have F2 := (bcell H2).2
  go_wp2_with fail
  refine (impl_LineCount_is g lc hlc _).mono ?_
  rintro e w3 ⟨rfl, h3⟩
  have s3 := h3.size
  try simp only [World.size_alloc, World.size_setCell, World.size_drew, World.heap_drewN] at s3
  have B3_1 := bnext (by first | (with_reducible exact B2_1) | exact (bgrow B2_1 (by go_size) (by repeat' (first | (with_reducible exact Below.refl _ _) | (with_reducible assumption) | (with_reducible refine bdrawn ?_ _) | (with_reducible refine Below.alloc ?_ ?_ _) | (with_reducible refine Below.drew ?_) | (with_reducible refine Below.setCell ?_ ?_ _) | go_size)))) h3 (by go_size)
  have z3_0 : w.heap.size < w3.heap.size := by omega
  have q3_0 := fun o => (bcell B3_1).1 (w.heap.size) o (by go_size)
  have f3_0 := fun o => (bcell B3_1).2 (w.heap.size) o (by go_size)
  have z3_1 : w.heap.size + 1 < w3.heap.size := by omega
  have q3_1 := fun o => (bcell B3_1).1 (w.heap.size + 1) o (by go_size)
  have f3_1 := fun o => (bcell B3_1).2 (w.heap.size + 1) o (by go_size)
  have z3_2 : w.heap.size + 1 + 1 < w3.heap.size := by omega
  have q3_2 := fun o => (bcell B3_1).1 (w.heap.size + 1 + 1) o (by go_size)
  have f3_2 := fun o => (bcell B3_1).2 (w.heap.size + 1 + 1) o (by go_size)
  have H3 : Below w.heap.size w w3 := bthen (by repeat' (first | (with_reducible exact Below.refl _ _) | (with_reducible assumption) | (with_reducible refine bdrawn ?_ _) | (with_reducible refine Below.alloc ?_ ?_ _) | (with_reducible refine Below.drew ?_) | (with_reducible refine Below.setCell ?_ ?_ _) | go_size)) h3 (by go_size)
  have C3 := (bcell H3).1; have F3 := (bcell H3).2
  go_wp2_with (first | (go_at_call 77; refine (btw_eq 77 _ _ _ true _ hbt (impl_between _ _ _ _)).mono ?_; rintro e wq ⟨rfl, rfl⟩))
  refine (impl_BankCount_is g bc hbc _).mono ?_
  rintro e w4 ⟨rfl, h4⟩
  have s4 := h4.size
  try simp only [World.size_alloc, World.size_setCell, World.size_drew, World.heap_drewN] at s4
  have B4_1 := bnext (by first | (with_reducible exact B3_1) | exact (bgrow B3_1 (by go_size) (by repeat' (first | (with_reducible exact Below.refl _ _) | (with_reducible assumption) | (with_reducible refine bdrawn ?_ _) | (with_reducible refine Below.alloc ?_ ?_ _) | (with_reducible refine Below.drew ?_) | (with_reducible refine Below.setCell ?_ ?_ _) | go_size)))) h4 (by go_size)
  have z4_0 : w.heap.size < w4.heap.size := by omega
  have q4_0 := fun o => (bcell B4_1).1 (w.heap.size) o (by go_size)
  have f4_0 := fun o => (bcell B4_1).2 (w.heap.size) o (by go_size)
  have z4_1 : w.heap.size + 1 < w4.heap.size := by omega
  have q4_1 := fun o => (bcell B4_1).1 (w.heap.size + 1) o (by go_size)
  have f4_1 := fun o => (bcell B4_1).2 (w.heap.size + 1) o (by go_size)
  have z4_2 : w.heap.size + 1 + 1 < w4.heap.size := by omega
  have q4_2 := fun o => (bcell B4_1).1 (w.heap.size + 1 + 1) o (by go_size)
  have f4_2 := fun o => (bcell B4_1).2 (w.heap.size + 1 + 1) o (by go_size)
  have H4 : Below w.heap.size w w4 := bthen (by repeat' (first | (with_reducible exact Below.refl _ _) | (with_reducible assumption) | (with_reducible refine bdrawn ?_ _) | (with_reducible refine Below.alloc ?_ ?_ _) | (with_reducible refine Below.drew ?_) | (with_reducible refine Below.setCell ?_ ?_ _) | go_size)) h4 (by go_size)
  have C4 := (bcell H4).1; have F4 := (bcell H4).2
  go_wp2_with fail
  obtain ⟨y1, y2, y3, y4⟩ := Y.out
  have hA : Below w4.heap.size w4 (w4.alloc (.cells #[.int .i64 0, .int .i64 0, .int .i64 0] 138)) := Below.alloc (Below.refl _ _) (Nat.le_refl _) _
  have e2 : (w4.alloc (.cells #[.int .i64 0, .int .i64 0, .int .i64 0] 138)).cell? ⟨w.heap.size, 2, none⟩ = some (.int .i64 g.rw) := ((bcell hA).1 _ _ (by omega)).trans ((q4_0 2).trans (by simp [go_sem]))
  have e3 : (w4.alloc (.cells #[.int .i64 0, .int .i64 0, .int .i64 0] 138)).cell? ⟨w.heap.size, 3, none⟩ = some (.int .i64 g.cl) := ((bcell hA).1 _ _ (by omega)).trans ((q4_0 3).trans (by simp [go_sem]))
  have eh : (w4.alloc (.cells #[.int .i64 0, .int .i64 0, .int .i64 0] 138)).cell? ⟨w.heap.size + 1, 1, none⟩ = some (.bool false) := ((bcell hA).1 _ _ (by omega)).trans ((q4_1 1).trans (by simp [go_sem]))
  have er0 : (w4.alloc (.cells #[.int .i64 0, .int .i64 0, .int .i64 0] 138)).cell? ⟨w.heap.size + 1 + 1, 0, none⟩ = some (.int .i64 0) := ((bcell hA).1 _ _ (by omega)).trans ((q4_2 0).trans (by simp [go_sem]))
  have fr0 : (w4.alloc (.cells #[.int .i64 0, .int .i64 0, .int .i64 0] 138)).frozen? ⟨w.heap.size + 1 + 1, 0, none⟩ = false := ((bcell hA).2 _ _ (by omega)).trans ((f4_2 0).trans (by simp [go_sem]))
  have er1 : (w4.alloc (.cells #[.int .i64 0, .int .i64 0, .int .i64 0] 138)).cell? ⟨w.heap.size + 1 + 1, 1, none⟩ = some (.int .i64 0) := ((bcell hA).1 _ _ (by omega)).trans ((q4_2 1).trans (by simp [go_sem]))
  have fr1 : (w4.alloc (.cells #[.int .i64 0, .int .i64 0, .int .i64 0] 138)).frozen? ⟨w.heap.size + 1 + 1, 1, none⟩ = false := ((bcell hA).2 _ _ (by omega)).trans ((f4_2 1).trans (by simp [go_sem]))
  have er2 : (w4.alloc (.cells #[.int .i64 0, .int .i64 0, .int .i64 0] 138)).cell? ⟨w.heap.size + 1 + 1, 2, none⟩ = some (.int .i64 0) := ((bcell hA).1 _ _ (by omega)).trans ((q4_2 2).trans (by simp [go_sem]))
  have fr2 : (w4.alloc (.cells #[.int .i64 0, .int .i64 0, .int .i64 0] 138)).frozen? ⟨w.heap.size + 1 + 1, 2, none⟩ = false := ((bcell hA).2 _ _ (by omega)).trans ((f4_2 2).trans (by simp [go_sem]))
  have kn := alloc_at w4 (.cells #[.int .i64 0, .int .i64 0, .int .i64 0] 138) _ rfl
  have hB := bthen H4 hA (by omega)
  have hps : ¬ w4.heap.size = w.heap.size + 1 + 1 := by omega
  have hpt : w.heap.size + 3 ≤ w4.heap.size := by omega
  have hpu : w4.heap.size < (w4.alloc (.cells #[.int .i64 0, .int .i64 0, .int .i64 0] 138)).heap.size := by simp
  generalize (w4.alloc (.cells #[.int .i64 0, .int .i64 0, .int .i64 0] 138)) = W at *
  generalize w4.heap.size = p at *
  have n0 := cell_blk kn 0; have n1 := cell_blk kn 1; have n2 := cell_blk kn 2; have nf := fun o => free_blk kn o
  clear hA kn
  go_still_tail 17, (by kernel_rfl)
  go_wp2
  refine bodyPost_ret (by simp [results, Try.results97, go_sem, *]; try rfl) rfl ?_
  exact ⟨rfl, by go_grown⟩
set_option maxRecDepth 100000 in
set_option maxHeartbeats 4000000 in
theorem impl_MapLine_0t (g : Ge) (n b r c h : Int) (w : World) (hv : mapOk g 0 n = true) (he : mapL g 0 false n = ⟨b, r, c⟩) (hh : (b + r) % bankCnt g = h) :
    Calls Try.prog 97 #[.agg #[.int .i64 g.gr, .int .i64 g.bk, .int .i64 g.rw, .int .i64 g.cl], .agg #[.int .i64 0, .bool true], .int .i64 n] w fun e w' => e = .returned (.tuple #[.agg #[.int .i64 h, .int .i64 r, .int .i64 c], .bool true]) ∧ Below w.heap.size w w' := by
  obtain ⟨hg, _, n0, n1, hbt, hmo⟩ := mapOk_bd hv
  obtain ⟨lc, hlc⟩ : ∃ lc, lineCnt g = lc := ⟨_, rfl⟩
  obtain ⟨bc, hbc⟩ : ∃ bc, bankCnt g = bc := ⟨_, rfl⟩
  have hbd := lineCnt_bd g; have hkb := bank_bd hg
  have hgd := geoOk_bd hg
  rw [show g.gr * g.bk = bc by rw [← hbc]; unfold bankCnt; rw [if_pos hg]] at hkb
  have k1 := hkb.1; have k2 := hkb.2
  have g5 := hgd.2.2.2.2.1; have g6 := hgd.2.2.2.2.2.1; have g7 := hgd.2.2.2.2.2.2.1; have g8 := hgd.2.2.2.2.2.2.2
  have had := mapL_ok false hv
  rw [he] at had
  have had := adOk_num had
  rw [hlc] at hbd hbt
  have b0 := hbd.1; have b1 := hbd.2
  have n2 : n ≤ lc - 1 := (btw_true.1 hbt).2
  have d1 := had.1; have d2 := had.2.1; have d3 := had.2.2.1; have d4 := had.2.2.2
  simp only [mapL, hbc, Bool.false_eq_true, if_false, Ad.mk.injEq, if_true] at he
  obtain ⟨X, hX⟩ : ∃ X, n / g.cl = X := ⟨_, rfl⟩
  rw [hX] at he
  have q1 : 0 ≤ X := hX ▸ Int.ediv_nonneg n0 (by omega)
  have q2 : X ≤ n := hX ▸ Int.ediv_le_self _ n0
  have y1 : n.tdiv g.cl = X := by rw [Int.tdiv_eq_ediv_of_nonneg n0]; exact hX
  have y2 : X.tdiv bc = r := by rw [Int.tdiv_eq_ediv_of_nonneg q1]; exact he.2.1
  have y3 : X.tmod bc = b := by rw [Int.tmod_eq_emod_of_nonneg q1]; exact he.1
  have y4 : n.tmod g.cl = c := by rw [Int.tmod_eq_emod_of_nonneg n0]; exact he.2.2
  have y5 : (b + r).tmod bc = h := by rw [Int.tmod_eq_emod_of_nonneg (by omega), ← hbc]; exact hh
  have y6 : IntKind.i64.wrap (b + r) = b + r := IntWalk.i64_in _ (by omega)
  have z1 : (g.cl == 0) = false := by simp; omega
  have z2 : (bc == 0) = false := by simp; omega
  have z3 : ¬ g.cl = 0 := by omega
  have z4 : ¬ bc = 0 := by omega
  have u1 : IntKind.i64.wrap X = X := IntWalk.i64_in _ (by omega)
  have u2 : IntKind.i64.wrap r = r := IntWalk.i64_in _ (by omega)
  have Y := hide (And.intro y1 (And.intro y2 (And.intro y3 y4)))
  have Y5 := hide (And.intro y5 y6)
  clear y1 y2 y3 y4 hbd hgd hkb he hX had hv n1 y5 y6 hh
  go_enter Try.func97, Try.ntmps97
  go_wp2_with fail
  refine (impl_GeometryOk_is g true hg _).mono ?_
  rintro e w1 ⟨rfl, h1⟩
  have s1 := h1.size
  try simp only [World.size_alloc, World.size_setCell, World.size_drew, World.heap_drewN] at s1
  have B1_1 := h1
  have z1_0 : w.heap.size < w1.heap.size := by omega
  have q1_0 := fun o => (bcell B1_1).1 (w.heap.size) o (by go_size)
  have f1_0 := fun o => (bcell B1_1).2 (w.heap.size) o (by go_size)
  have z1_1 : w.heap.size + 1 < w1.heap.size := by omega
  have q1_1 := fun o => (bcell B1_1).1 (w.heap.size + 1) o (by go_size)
  have f1_1 := fun o => (bcell B1_1).2 (w.heap.size + 1) o (by go_size)
  have z1_2 : w.heap.size + 1 + 1 < w1.heap.size := by omega
  have q1_2 := fun o => (bcell B1_1).1 (w.heap.size + 1 + 1) o (by go_size)
  have f1_2 := fun o => (bcell B1_1).2 (w.heap.size + 1 + 1) o (by go_size)
  have H1 : Below w.heap.size w w1 := bthen (by repeat' (first | (with_reducible exact Below.refl _ _) | (with_reducible assumption) | (with_reducible refine bdrawn ?_ _) | (with_reducible refine Below.alloc ?_ ?_ _) | (with_reducible refine Below.drew ?_) | (with_reducible refine Below.setCell ?_ ?_ _) | go_size)) h1 (by go_size)
  have C1 := (bcell H1).1; have F1 := (bcell H1).2
  go_wp2_with fail
  refine (impl_MappingOk 0 true true hmo _).mono ?_
  rintro e w2 ⟨rfl, h2⟩
  have s2 := h2.size
  try simp only [World.size_alloc, World.size_setCell, World.size_drew, World.heap_drewN] at s2
  have B2_1 := bnext (by first | (with_reducible exact B1_1) | exact (bgrow B1_1 (by go_size) (by repeat' (first | (with_reducible exact Below.refl _ _) | (with_reducible assumption) | (with_reducible refine bdrawn ?_ _) | (with_reducible refine Below.alloc ?_ ?_ _) | (with_reducible refine Below.drew ?_) | (with_reducible refine Below.setCell ?_ ?_ _) | go_size)))) h2 (by go_size)
  have z2_0 : w.heap.size < w2.heap.size := by omega
  have q2_0 := fun o => (bcell B2_1).1 (w.heap.size) o (by go_size)
  have f2_0 := fun o => (bcell B2_1).2 (w.heap.size) o (by go_size)
  have z2_1 : w.heap.size + 1 < w2.heap.size := by omega
  have q2_1 := fun o => (bcell B2_1).1 (w.heap.size + 1) o (by go_size)
  have f2_1 := fun o => (bcell B2_1).2 (w.heap.size + 1) o (by go_size)
  have z2_2 : w.heap.size + 1 + 1 < w2.heap.size := by omega
  have q2_2 := fun o => (bcell B2_1).1 (w.heap.size + 1 + 1) o (by go_size)
  have f2_2 := fun o => (bcell B2_1).2 (w.heap.size + 1 + 1) o (by go_size)
  have H2 : Below w.heap.size w w2 := bthen (by repeat' (first | (with_reducible exact Below.refl _ _) | (with_reducible assumption) | (with_reducible refine bdrawn ?_ _) | (with_reducible refine Below.alloc ?_ ?_ _) | (with_reducible refine Below.drew ?_) | (with_reducible refine Below.setCell ?_ ?_ _) | go_size)) h2 (by go_size)
  have C2 := (bcell H2).1; have F2 := (bcell H2).2
  go_wp2_with fail
  refine (impl_LineCount_is g lc hlc _).mono ?_
  rintro e w3 ⟨rfl, h3⟩
  have s3 := h3.size
  try simp only [World.size_alloc, World.size_setCell, World.size_drew, World.heap_drewN] at s3
  have B3_1 := bnext (by first | (with_reducible exact B2_1) | exact (bgrow B2_1 (by go_size) (by repeat' (first | (with_reducible exact Below.refl _ _) | (with_reducible assumption) | (with_reducible refine bdrawn ?_ _) | (with_reducible refine Below.alloc ?_ ?_ _) | (with_reducible refine Below.drew ?_) | (with_reducible refine Below.setCell ?_ ?_ _) | go_size)))) h3 (by go_size)
  have z3_0 : w.heap.size < w3.heap.size := by omega
  have q3_0 := fun o => (bcell B3_1).1 (w.heap.size) o (by go_size)
  have f3_0 := fun o => (bcell B3_1).2 (w.heap.size) o (by go_size)
  have z3_1 : w.heap.size + 1 < w3.heap.size := by omega
  have q3_1 := fun o => (bcell B3_1).1 (w.heap.size + 1) o (by go_size)
  have f3_1 := fun o => (bcell B3_1).2 (w.heap.size + 1) o (by go_size)
  have z3_2 : w.heap.size + 1 + 1 < w3.heap.size := by omega
  have q3_2 := fun o => (bcell B3_1).1 (w.heap.size + 1 + 1) o (by go_size)
  have f3_2 := fun o => (bcell B3_1).2 (w.heap.size + 1 + 1) o (by go_size)
  have H3 : Below w.heap.size w w3 := bthen (by repeat' (first | (with_reducible exact Below.refl _ _) | (with_reducible assumption) | (with_reducible refine bdrawn ?_ _) | (with_reducible refine Below.alloc ?_ ?_ _) | (with_reducible refine Below.drew ?_) | (with_reducible refine Below.setCell ?_ ?_ _) | go_size)) h3 (by go_size)
  have C3 := (bcell H3).1; have F3 := (bcell H3).2
  go_wp2_with (first | (go_at_call 77; refine (btw_eq 77 _ _ _ true _ hbt (impl_between _ _ _ _)).mono ?_; rintro e wq ⟨rfl, rfl⟩))
  refine (impl_BankCount_is g bc hbc _).mono ?_
  rintro e w4 ⟨rfl, h4⟩
  have s4 := h4.size
  try simp only [World.size_alloc, World.size_setCell, World.size_drew, World.heap_drewN] at s4
  have B4_1 := bnext (by first | (with_reducible exact B3_1) | exact (bgrow B3_1 (by go_size) (by repeat' (first | (with_reducible exact Below.refl _ _) | (with_reducible assumption) | (with_reducible refine bdrawn ?_ _) | (with_reducible refine Below.alloc ?_ ?_ _) | (with_reducible refine Below.drew ?_) | (with_reducible refine Below.setCell ?_ ?_ _) | go_size)))) h4 (by go_size)
  have z4_0 : w.heap.size < w4.heap.size := by omega
  have q4_0 := fun o => (bcell B4_1).1 (w.heap.size) o (by go_size)
  have f4_0 := fun o => (bcell B4_1).2 (w.heap.size) o (by go_size)
  have z4_1 : w.heap.size + 1 < w4.heap.size := by omega
  have q4_1 := fun o => (bcell B4_1).1 (w.heap.size + 1) o (by go_size)
  have f4_1 := fun o => (bcell B4_1).2 (w.heap.size + 1) o (by go_size)
  have z4_2 : w.heap.size + 1 + 1 < w4.heap.size := by omega
  have q4_2 := fun o => (bcell B4_1).1 (w.heap.size + 1 + 1) o (by go_size)
  have f4_2 := fun o => (bcell B4_1).2 (w.heap.size + 1 + 1) o (by go_size)
  have H4 : Below w.heap.size w w4 := bthen (by repeat' (first | (with_reducible exact Below.refl _ _) | (with_reducible assumption) | (with_reducible refine bdrawn ?_ _) | (with_reducible refine Below.alloc ?_ ?_ _) | (with_reducible refine Below.drew ?_) | (with_reducible refine Below.setCell ?_ ?_ _) | go_size)) h4 (by go_size)
  have C4 := (bcell H4).1; have F4 := (bcell H4).2
  go_wp2_with fail
  obtain ⟨y1, y2, y3, y4⟩ := Y.out
  obtain ⟨y5, y6⟩ := Y5.out
  have hA : Below w4.heap.size w4 (w4.alloc (.cells #[.int .i64 0, .int .i64 0, .int .i64 0] 138)) := Below.alloc (Below.refl _ _) (Nat.le_refl _) _
  have e2 : (w4.alloc (.cells #[.int .i64 0, .int .i64 0, .int .i64 0] 138)).cell? ⟨w.heap.size, 2, none⟩ = some (.int .i64 g.rw) := ((bcell hA).1 _ _ (by omega)).trans ((q4_0 2).trans (by simp [go_sem]))
  have e3 : (w4.alloc (.cells #[.int .i64 0, .int .i64 0, .int .i64 0] 138)).cell? ⟨w.heap.size, 3, none⟩ = some (.int .i64 g.cl) := ((bcell hA).1 _ _ (by omega)).trans ((q4_0 3).trans (by simp [go_sem]))
  have eh : (w4.alloc (.cells #[.int .i64 0, .int .i64 0, .int .i64 0] 138)).cell? ⟨w.heap.size + 1, 1, none⟩ = some (.bool true) := ((bcell hA).1 _ _ (by omega)).trans ((q4_1 1).trans (by simp [go_sem]))
  have er0 : (w4.alloc (.cells #[.int .i64 0, .int .i64 0, .int .i64 0] 138)).cell? ⟨w.heap.size + 1 + 1, 0, none⟩ = some (.int .i64 0) := ((bcell hA).1 _ _ (by omega)).trans ((q4_2 0).trans (by simp [go_sem]))
  have fr0 : (w4.alloc (.cells #[.int .i64 0, .int .i64 0, .int .i64 0] 138)).frozen? ⟨w.heap.size + 1 + 1, 0, none⟩ = false := ((bcell hA).2 _ _ (by omega)).trans ((f4_2 0).trans (by simp [go_sem]))
  have er1 : (w4.alloc (.cells #[.int .i64 0, .int .i64 0, .int .i64 0] 138)).cell? ⟨w.heap.size + 1 + 1, 1, none⟩ = some (.int .i64 0) := ((bcell hA).1 _ _ (by omega)).trans ((q4_2 1).trans (by simp [go_sem]))
  have fr1 : (w4.alloc (.cells #[.int .i64 0, .int .i64 0, .int .i64 0] 138)).frozen? ⟨w.heap.size + 1 + 1, 1, none⟩ = false := ((bcell hA).2 _ _ (by omega)).trans ((f4_2 1).trans (by simp [go_sem]))
  have er2 : (w4.alloc (.cells #[.int .i64 0, .int .i64 0, .int .i64 0] 138)).cell? ⟨w.heap.size + 1 + 1, 2, none⟩ = some (.int .i64 0) := ((bcell hA).1 _ _ (by omega)).trans ((q4_2 2).trans (by simp [go_sem]))
  have fr2 : (w4.alloc (.cells #[.int .i64 0, .int .i64 0, .int .i64 0] 138)).frozen? ⟨w.heap.size + 1 + 1, 2, none⟩ = false := ((bcell hA).2 _ _ (by omega)).trans ((f4_2 2).trans (by simp [go_sem]))
  have kn := alloc_at w4 (.cells #[.int .i64 0, .int .i64 0, .int .i64 0] 138) _ rfl
  have hB := bthen H4 hA (by omega)
  have hps : ¬ w4.heap.size = w.heap.size + 1 + 1 := by omega
  have hpt : w.heap.size + 3 ≤ w4.heap.size := by omega
  have hpu : w4.heap.size < (w4.alloc (.cells #[.int .i64 0, .int .i64 0, .int .i64 0] 138)).heap.size := by simp
  generalize (w4.alloc (.cells #[.int .i64 0, .int .i64 0, .int .i64 0] 138)) = W at *
  generalize w4.heap.size = p at *
  have n0 := cell_blk kn 0; have n1 := cell_blk kn 1; have n2 := cell_blk kn 2; have nf := fun o => free_blk kn o
  clear hA kn
  go_still_tail 17, (by kernel_rfl)
  go_wp2
  refine bodyPost_ret (by simp [results, Try.results97, go_sem, *]; try rfl) rfl ?_
  exact ⟨rfl, by go_grown⟩
set_option maxRecDepth 100000 in
set_option maxHeartbeats 4000000 in
theorem impl_MapLine_1f (g : Ge) (n b r c : Int) (w : World) (hv : mapOk g 1 n = true) (he : mapL g 1 false n = ⟨b, r, c⟩) :
    Calls Try.prog 97 #[.agg #[.int .i64 g.gr, .int .i64 g.bk, .int .i64 g.rw, .int .i64 g.cl], .agg #[.int .i64 1, .bool false], .int .i64 n] w fun e w' => e = .returned (.tuple #[.agg #[.int .i64 b, .int .i64 r, .int .i64 c], .bool true]) ∧ Below w.heap.size w w' := by
  obtain ⟨hg, _, n0, n1, hbt, hmo⟩ := mapOk_bd hv
  obtain ⟨lc, hlc⟩ : ∃ lc, lineCnt g = lc := ⟨_, rfl⟩
  obtain ⟨bc, hbc⟩ : ∃ bc, bankCnt g = bc := ⟨_, rfl⟩
  have hbd := lineCnt_bd g; have hkb := bank_bd hg
  have hgd := geoOk_bd hg
  rw [show g.gr * g.bk = bc by rw [← hbc]; unfold bankCnt; rw [if_pos hg]] at hkb
  have k1 := hkb.1; have k2 := hkb.2
  have g5 := hgd.2.2.2.2.1; have g6 := hgd.2.2.2.2.2.1; have g7 := hgd.2.2.2.2.2.2.1; have g8 := hgd.2.2.2.2.2.2.2
  have had := mapL_ok false hv
  rw [he] at had
  have had := adOk_num had
  rw [hlc] at hbd hbt
  have b0 := hbd.1; have b1 := hbd.2
  have n2 : n ≤ lc - 1 := (btw_true.1 hbt).2
  have d1 := had.1; have d2 := had.2.1; have d3 := had.2.2.1; have d4 := had.2.2.2
  simp only [mapL, hbc, Bool.false_eq_true, if_false, Ad.mk.injEq, if_true, show ¬ (1 : Int) = 0 by omega, show ¬ (2 : Int) = 0 by omega, show ¬ (2 : Int) = 1 by omega] at he
  obtain ⟨X, hX⟩ : ∃ X, n / bc = X := ⟨_, rfl⟩
  rw [hX] at he
  have q1 : 0 ≤ X := hX ▸ Int.ediv_nonneg n0 (by omega)
  have q2 : X ≤ n := hX ▸ Int.ediv_le_self _ n0
  have y1 : n.tdiv bc = X := by rw [Int.tdiv_eq_ediv_of_nonneg n0]; exact hX
  have y2 : X.tdiv g.cl = r := by rw [Int.tdiv_eq_ediv_of_nonneg q1]; exact he.2.1
  have y3 : X.tmod g.cl = c := by rw [Int.tmod_eq_emod_of_nonneg q1]; exact he.2.2
  have y4 : n.tmod bc = b := by rw [Int.tmod_eq_emod_of_nonneg n0]; exact he.1
  have z1 : (bc == 0) = false := by simp; omega
  have z2 : (g.cl == 0) = false := by simp; omega
  have z3 : ¬ bc = 0 := by omega
  have z4 : ¬ g.cl = 0 := by omega
  have u1 : IntKind.i64.wrap X = X := IntWalk.i64_in _ (by omega)
  have u2 : IntKind.i64.wrap r = r := IntWalk.i64_in _ (by omega)
  have Y := hide (And.intro y1 (And.intro y2 (And.intro y3 y4)))
  skip
  clear y1 y2 y3 y4 hbd hgd hkb he hX had hv n1
  go_enter Try.func97, Try.ntmps97
  go_wp2_with fail
  refine (impl_GeometryOk_is g true hg _).mono ?_
  rintro e w1 ⟨rfl, h1⟩
  have s1 := h1.size
  try simp only [World.size_alloc, World.size_setCell, World.size_drew, World.heap_drewN] at s1
  have B1_1 := h1
  have z1_0 : w.heap.size < w1.heap.size := by omega
  have q1_0 := fun o => (bcell B1_1).1 (w.heap.size) o (by go_size)
  have f1_0 := fun o => (bcell B1_1).2 (w.heap.size) o (by go_size)
  have z1_1 : w.heap.size + 1 < w1.heap.size := by omega
  have q1_1 := fun o => (bcell B1_1).1 (w.heap.size + 1) o (by go_size)
  have f1_1 := fun o => (bcell B1_1).2 (w.heap.size + 1) o (by go_size)
  have z1_2 : w.heap.size + 1 + 1 < w1.heap.size := by omega
  have q1_2 := fun o => (bcell B1_1).1 (w.heap.size + 1 + 1) o (by go_size)
  have f1_2 := fun o => (bcell B1_1).2 (w.heap.size + 1 + 1) o (by go_size)
  have H1 : Below w.heap.size w w1 := bthen (by repeat' (first | (with_reducible exact Below.refl _ _) | (with_reducible assumption) | (with_reducible refine bdrawn ?_ _) | (with_reducible refine Below.alloc ?_ ?_ _) | (with_reducible refine Below.drew ?_) | (with_reducible refine Below.setCell ?_ ?_ _) | go_size)) h1 (by go_size)
  have C1 := (bcell H1).1; have F1 := (bcell H1).2
  go_wp2_with fail
  refine (impl_MappingOk 1 false true hmo _).mono ?_
  rintro e w2 ⟨rfl, h2⟩
  have s2 := h2.size
  try simp only [World.size_alloc, World.size_setCell, World.size_drew, World.heap_drewN] at s2
  have B2_1 := bnext (by first | (with_reducible exact B1_1) | exact (bgrow B1_1 (by go_size) (by repeat' (first | (with_reducible exact Below.refl _ _) | (with_reducible assumption) | (with_reducible refine bdrawn ?_ _) | (with_reducible refine Below.alloc ?_ ?_ _) | (with_reducible refine Below.drew ?_) | (with_reducible refine Below.setCell ?_ ?_ _) | go_size)))) h2 (by go_size)
  have z2_0 : w.heap.size < w2.heap.size := by omega
  have q2_0 := fun o => (bcell B2_1).1 (w.heap.size) o (by go_size)
  have f2_0 := fun o => (bcell B2_1).2 (w.heap.size) o (by go_size)
  have z2_1 : w.heap.size + 1 < w2.heap.size := by omega
  have q2_1 := fun o => (bcell B2_1).1 (w.heap.size + 1) o (by go_size)
  have f2_1 := fun o => (bcell B2_1).2 (w.heap.size + 1) o (by go_size)
  have z2_2 : w.heap.size + 1 + 1 < w2.heap.size := by omega
  have q2_2 := fun o => (bcell B2_1).1 (w.heap.size + 1 + 1) o (by go_size)
  have f2_2 := fun o => (bcell B2_1).2 (w.heap.size + 1 + 1) o (by go_size)
  have H2 : Below w.heap.size w w2 := bthen (by repeat' (first | (with_reducible exact Below.refl _ _) | (with_reducible assumption) | (with_reducible refine bdrawn ?_ _) | (with_reducible refine Below.alloc ?_ ?_ _) | (with_reducible refine Below.drew ?_) | (with_reducible refine Below.setCell ?_ ?_ _) | go_size)) h2 (by go_size)
  have C2 := (bcell H2).1; have F2 := (bcell H2).2
  go_wp2_with fail
  refine (impl_LineCount_is g lc hlc _).mono ?_
  rintro e w3 ⟨rfl, h3⟩
  have s3 := h3.size
  try simp only [World.size_alloc, World.size_setCell, World.size_drew, World.heap_drewN] at s3
  have B3_1 := bnext (by first | (with_reducible exact B2_1) | exact (bgrow B2_1 (by go_size) (by repeat' (first | (with_reducible exact Below.refl _ _) | (with_reducible assumption) | (with_reducible refine bdrawn ?_ _) | (with_reducible refine Below.alloc ?_ ?_ _) | (with_reducible refine Below.drew ?_) | (with_reducible refine Below.setCell ?_ ?_ _) | go_size)))) h3 (by go_size)
  have z3_0 : w.heap.size < w3.heap.size := by omega
  have q3_0 := fun o => (bcell B3_1).1 (w.heap.size) o (by go_size)
  have f3_0 := fun o => (bcell B3_1).2 (w.heap.size) o (by go_size)
  have z3_1 : w.heap.size + 1 < w3.heap.size := by omega
  have q3_1 := fun o => (bcell B3_1).1 (w.heap.size + 1) o (by go_size)
  have f3_1 := fun o => (bcell B3_1).2 (w.heap.size + 1) o (by go_size)
  have z3_2 : w.heap.size + 1 + 1 < w3.heap.size := by omega
  have q3_2 := fun o => (bcell B3_1).1 (w.heap.size + 1 + 1) o (by go_size)
  have f3_2 := fun o => (bcell B3_1).2 (w.heap.size + 1 + 1) o (by go_size)
  have H3 : Below w.heap.size w w3 := bthen (by repeat' (first | (with_reducible exact Below.refl _ _) | (with_reducible assumption) | (with_reducible refine bdrawn ?_ _) | (with_reducible refine Below.alloc ?_ ?_ _) | (with_reducible refine Below.drew ?_) | (with_reducible refine Below.setCell ?_ ?_ _) | go_size)) h3 (by go_size)
  have C3 := (bcell H3).1; have F3 := (bcell H3).2
  go_wp2_with (first | (go_at_call 77; refine (btw_eq 77 _ _ _ true _ hbt (impl_between _ _ _ _)).mono ?_; rintro e wq ⟨rfl, rfl⟩))
  refine (impl_BankCount_is g bc hbc _).mono ?_
  rintro e w4 ⟨rfl, h4⟩
  have s4 := h4.size
  try simp only [World.size_alloc, World.size_setCell, World.size_drew, World.heap_drewN] at s4
  have B4_1 := bnext (by first | (with_reducible exact B3_1) | exact (bgrow B3_1 (by go_size) (by repeat' (first | (with_reducible exact Below.refl _ _) | (with_reducible assumption) | (with_reducible refine bdrawn ?_ _) | (with_reducible refine Below.alloc ?_ ?_ _) | (with_reducible refine Below.drew ?_) | (with_reducible refine Below.setCell ?_ ?_ _) | go_size)))) h4 (by go_size)
  have z4_0 : w.heap.size < w4.heap.size := by omega
  have q4_0 := fun o => (bcell B4_1).1 (w.heap.size) o (by go_size)
  have f4_0 := fun o => (bcell B4_1).2 (w.heap.size) o (by go_size)
  have z4_1 : w.heap.size + 1 < w4.heap.size := by omega
  have q4_1 := fun o => (bcell B4_1).1 (w.heap.size + 1) o (by go_size)
  have f4_1 := fun o => (bcell B4_1).2 (w.heap.size + 1) o (by go_size)
  have z4_2 : w.heap.size + 1 + 1 < w4.heap.size := by omega
  have q4_2 := fun o => (bcell B4_1).1 (w.heap.size + 1 + 1) o (by go_size)
  have f4_2 := fun o => (bcell B4_1).2 (w.heap.size + 1 + 1) o (by go_size)
  have H4 : Below w.heap.size w w4 := bthen (by repeat' (first | (with_reducible exact Below.refl _ _) | (with_reducible assumption) | (with_reducible refine bdrawn ?_ _) | (with_reducible refine Below.alloc ?_ ?_ _) | (with_reducible refine Below.drew ?_) | (with_reducible refine Below.setCell ?_ ?_ _) | go_size)) h4 (by go_size)
  have C4 := (bcell H4).1; have F4 := (bcell H4).2
  go_wp2_with fail
  obtain ⟨y1, y2, y3, y4⟩ := Y.out
  have hA : Below w4.heap.size w4 (w4.alloc (.cells #[.int .i64 0, .int .i64 0, .int .i64 0] 138)) := Below.alloc (Below.refl _ _) (Nat.le_refl _) _
  have e2 : (w4.alloc (.cells #[.int .i64 0, .int .i64 0, .int .i64 0] 138)).cell? ⟨w.heap.size, 2, none⟩ = some (.int .i64 g.rw) := ((bcell hA).1 _ _ (by omega)).trans ((q4_0 2).trans (by simp [go_sem]))
  have e3 : (w4.alloc (.cells #[.int .i64 0, .int .i64 0, .int .i64 0] 138)).cell? ⟨w.heap.size, 3, none⟩ = some (.int .i64 g.cl) := ((bcell hA).1 _ _ (by omega)).trans ((q4_0 3).trans (by simp [go_sem]))
  have eh : (w4.alloc (.cells #[.int .i64 0, .int .i64 0, .int .i64 0] 138)).cell? ⟨w.heap.size + 1, 1, none⟩ = some (.bool false) := ((bcell hA).1 _ _ (by omega)).trans ((q4_1 1).trans (by simp [go_sem]))
  have er0 : (w4.alloc (.cells #[.int .i64 0, .int .i64 0, .int .i64 0] 138)).cell? ⟨w.heap.size + 1 + 1, 0, none⟩ = some (.int .i64 0) := ((bcell hA).1 _ _ (by omega)).trans ((q4_2 0).trans (by simp [go_sem]))
  have fr0 : (w4.alloc (.cells #[.int .i64 0, .int .i64 0, .int .i64 0] 138)).frozen? ⟨w.heap.size + 1 + 1, 0, none⟩ = false := ((bcell hA).2 _ _ (by omega)).trans ((f4_2 0).trans (by simp [go_sem]))
  have er1 : (w4.alloc (.cells #[.int .i64 0, .int .i64 0, .int .i64 0] 138)).cell? ⟨w.heap.size + 1 + 1, 1, none⟩ = some (.int .i64 0) := ((bcell hA).1 _ _ (by omega)).trans ((q4_2 1).trans (by simp [go_sem]))
  have fr1 : (w4.alloc (.cells #[.int .i64 0, .int .i64 0, .int .i64 0] 138)).frozen? ⟨w.heap.size + 1 + 1, 1, none⟩ = false := ((bcell hA).2 _ _ (by omega)).trans ((f4_2 1).trans (by simp [go_sem]))
  have er2 : (w4.alloc (.cells #[.int .i64 0, .int .i64 0, .int .i64 0] 138)).cell? ⟨w.heap.size + 1 + 1, 2, none⟩ = some (.int .i64 0) := ((bcell hA).1 _ _ (by omega)).trans ((q4_2 2).trans (by simp [go_sem]))
  have fr2 : (w4.alloc (.cells #[.int .i64 0, .int .i64 0, .int .i64 0] 138)).frozen? ⟨w.heap.size + 1 + 1, 2, none⟩ = false := ((bcell hA).2 _ _ (by omega)).trans ((f4_2 2).trans (by simp [go_sem]))
  have kn := alloc_at w4 (.cells #[.int .i64 0, .int .i64 0, .int .i64 0] 138) _ rfl
  have hB := bthen H4 hA (by omega)
  have hps : ¬ w4.heap.size = w.heap.size + 1 + 1 := by omega
  have hpt : w.heap.size + 3 ≤ w4.heap.size := by omega
  have hpu : w4.heap.size < (w4.alloc (.cells #[.int .i64 0, .int .i64 0, .int .i64 0] 138)).heap.size := by simp
  generalize (w4.alloc (.cells #[.int .i64 0, .int .i64 0, .int .i64 0] 138)) = W at *
  generalize w4.heap.size = p at *
  have n0 := cell_blk kn 0; have n1 := cell_blk kn 1; have n2 := cell_blk kn 2; have nf := fun o => free_blk kn o
  clear hA kn
  go_still_tail 16, (by kernel_rfl)
  go_wp2
  refine bodyPost_ret (by simp [results, Try.results97, go_sem, *]; try rfl) rfl ?_
  exact ⟨rfl, by go_grown⟩
set_option maxRecDepth 100000 in
set_option maxHeartbeats 4000000 in
theorem impl_MapLine_1t (g : Ge) (n b r c h : Int) (w : World) (hv : mapOk g 1 n = true) (he : mapL g 1 false n = ⟨b, r, c⟩) (hh : (b + r) % bankCnt g = h) :
    Calls Try.prog 97 #[.agg #[.int .i64 g.gr, .int .i64 g.bk, .int .i64 g.rw, .int .i64 g.cl], .agg #[.int .i64 1, .bool true], .int .i64 n] w fun e w' => e = .returned (.tuple #[.agg #[.int .i64 h, .int .i64 r, .int .i64 c], .bool true]) ∧ Below w.heap.size w w' := by
  obtain ⟨hg, _, n0, n1, hbt, hmo⟩ := mapOk_bd hv
  obtain ⟨lc, hlc⟩ : ∃ lc, lineCnt g = lc := ⟨_, rfl⟩
  obtain ⟨bc, hbc⟩ : ∃ bc, bankCnt g = bc := ⟨_, rfl⟩
  have hbd := lineCnt_bd g; have hkb := bank_bd hg
  have hgd := geoOk_bd hg
  rw [show g.gr * g.bk = bc by rw [← hbc]; unfold bankCnt; rw [if_pos hg]] at hkb
  have k1 := hkb.1; have k2 := hkb.2
  have g5 := hgd.2.2.2.2.1; have g6 := hgd.2.2.2.2.2.1; have g7 := hgd.2.2.2.2.2.2.1; have g8 := hgd.2.2.2.2.2.2.2
  have had := mapL_ok false hv
  rw [he] at had
  have had := adOk_num had
  rw [hlc] at hbd hbt
  have b0 := hbd.1; have b1 := hbd.2
  have n2 : n ≤ lc - 1 := (btw_true.1 hbt).2
  have d1 := had.1; have d2 := had.2.1; have d3 := had.2.2.1; have d4 := had.2.2.2
  simp only [mapL, hbc, Bool.false_eq_true, if_false, Ad.mk.injEq, if_true, show ¬ (1 : Int) = 0 by omega, show ¬ (2 : Int) = 0 by omega, show ¬ (2 : Int) = 1 by omega] at he
  obtain ⟨X, hX⟩ : ∃ X, n / bc = X := ⟨_, rfl⟩
  rw [hX] at he
  have q1 : 0 ≤ X := hX ▸ Int.ediv_nonneg n0 (by omega)
  have q2 : X ≤ n := hX ▸ Int.ediv_le_self _ n0
  have y1 : n.tdiv bc = X := by rw [Int.tdiv_eq_ediv_of_nonneg n0]; exact hX
  have y2 : X.tdiv g.cl = r := by rw [Int.tdiv_eq_ediv_of_nonneg q1]; exact he.2.1
  have y3 : X.tmod g.cl = c := by rw [Int.tmod_eq_emod_of_nonneg q1]; exact he.2.2
  have y4 : n.tmod bc = b := by rw [Int.tmod_eq_emod_of_nonneg n0]; exact he.1
  have y5 : (b + r).tmod bc = h := by rw [Int.tmod_eq_emod_of_nonneg (by omega), ← hbc]; exact hh
  have y6 : IntKind.i64.wrap (b + r) = b + r := IntWalk.i64_in _ (by omega)
  have z1 : (bc == 0) = false := by simp; omega
  have z2 : (g.cl == 0) = false := by simp; omega
  have z3 : ¬ bc = 0 := by omega
  have z4 : ¬ g.cl = 0 := by omega
  have u1 : IntKind.i64.wrap X = X := IntWalk.i64_in _ (by omega)
  have u2 : IntKind.i64.wrap r = r := IntWalk.i64_in _ (by omega)
  have Y := hide (And.intro y1 (And.intro y2 (And.intro y3 y4)))
  have Y5 := hide (And.intro y5 y6)
  clear y1 y2 y3 y4 hbd hgd hkb he hX had hv n1 y5 y6 hh
  go_enter Try.func97, Try.ntmps97
  go_wp2_with fail
  refine (impl_GeometryOk_is g true hg _).mono ?_
  rintro e w1 ⟨rfl, h1⟩
  have s1 := h1.size
  try simp only [World.size_alloc, World.size_setCell, World.size_drew, World.heap_drewN] at s1
  have B1_1 := h1
  have z1_0 : w.heap.size < w1.heap.size := by omega
  have q1_0 := fun o => (bcell B1_1).1 (w.heap.size) o (by go_size)
  have f1_0 := fun o => (bcell B1_1).2 (w.heap.size) o (by go_size)
  have z1_1 : w.heap.size + 1 < w1.heap.size := by omega
  have q1_1 := fun o => (bcell B1_1).1 (w.heap.size + 1) o (by go_size)
  have f1_1 := fun o => (bcell B1_1).2 (w.heap.size + 1) o (by go_size)
  have z1_2 : w.heap.size + 1 + 1 < w1.heap.size := by omega
  have q1_2 := fun o => (bcell B1_1).1 (w.heap.size + 1 + 1) o (by go_size)
  have f1_2 := fun o => (bcell B1_1).2 (w.heap.size + 1 + 1) o (by go_size)
  have H1 : Below w.heap.size w w1 := bthen (by repeat' (first | (with_reducible exact Below.refl _ _) | (with_reducible assumption) | (with_reducible refine bdrawn ?_ _) | (with_reducible refine Below.alloc ?_ ?_ _) | (with_reducible refine Below.drew ?_) | (with_reducible refine Below.setCell ?_ ?_ _) | go_size)) h1 (by go_size)
  have C1 := (bcell H1).1; have F1 := (bcell H1).2
  go_wp2_with fail
  refine (impl_MappingOk 1 true true hmo _).mono ?_
  rintro e w2 ⟨rfl, h2⟩
  have s2 := h2.size
  try simp only [World.size_alloc, World.size_setCell, World.size_drew, World.heap_drewN] at s2
  have B2_1 := bnext (by first | (with_reducible exact B1_1) | exact (bgrow B1_1 (by go_size) (by repeat' (first | (with_reducible exact Below.refl _ _) | (with_reducible assumption) | (with_reducible refine bdrawn ?_ _) | (with_reducible refine Below.alloc ?_ ?_ _) | (with_reducible refine Below.drew ?_) | (with_reducible refine Below.setCell ?_ ?_ _) | go_size)))) h2 (by go_size)
  have z2_0 : w.heap.size < w2.heap.size := by omega
  have q2_0 := fun o => (bcell B2_1).1 (w.heap.size) o (by go_size)
  have f2_0 := fun o => (bcell B2_1).2 (w.heap.size) o (by go_size)
  have z2_1 : w.heap.size + 1 < w2.heap.size := by omega
  have q2_1 := fun o => (bcell B2_1).1 (w.heap.size + 1) o (by go_size)
  have f2_1 := fun o => (bcell B2_1).2 (w.heap.size + 1) o (by go_size)
  have z2_2 : w.heap.size + 1 + 1 < w2.heap.size := by omega
  have q2_2 := fun o => (bcell B2_1).1 (w.heap.size + 1 + 1) o (by go_size)
  have f2_2 := fun o => (bcell B2_1).2 (w.heap.size + 1 + 1) o (by go_size)
  have H2 : Below w.heap.size w w2 := bthen (by repeat' (first | (with_reducible exact Below.refl _ _) | (with_reducible assumption) | (with_reducible refine bdrawn ?_ _) | (with_reducible refine Below.alloc ?_ ?_ _) | (with_reducible refine Below.drew ?_) | (with_reducible refine Below.setCell ?_ ?_ _) | go_size)) h2 (by go_size)
  have C2 := (bcell H2).1; have F2 := (bcell H2).2
  go_wp2_with fail
  refine (impl_LineCount_is g lc hlc _).mono ?_
  rintro e w3 ⟨rfl, h3⟩
  have s3 := h3.size
  try simp only [World.size_alloc, World.size_setCell, World.size_drew, World.heap_drewN] at s3
  have B3_1 := bnext (by first | (with_reducible exact B2_1) | exact (bgrow B2_1 (by go_size) (by repeat' (first | (with_reducible exact Below.refl _ _) | (with_reducible assumption) | (with_reducible refine bdrawn ?_ _) | (with_reducible refine Below.alloc ?_ ?_ _) | (with_reducible refine Below.drew ?_) | (with_reducible refine Below.setCell ?_ ?_ _) | go_size)))) h3 (by go_size)
  have z3_0 : w.heap.size < w3.heap.size := by omega
  have q3_0 := fun o => (bcell B3_1).1 (w.heap.size) o (by go_size)
  have f3_0 := fun o => (bcell B3_1).2 (w.heap.size) o (by go_size)
  have z3_1 : w.heap.size + 1 < w3.heap.size := by omega
  have q3_1 := fun o => (bcell B3_1).1 (w.heap.size + 1) o (by go_size)
  have f3_1 := fun o => (bcell B3_1).2 (w.heap.size + 1) o (by go_size)
  have z3_2 : w.heap.size + 1 + 1 < w3.heap.size := by omega
  have q3_2 := fun o => (bcell B3_1).1 (w.heap.size + 1 + 1) o (by go_size)
  have f3_2 := fun o => (bcell B3_1).2 (w.heap.size + 1 + 1) o (by go_size)
  have H3 : Below w.heap.size w w3 := bthen (by repeat' (first | (with_reducible exact Below.refl _ _) | (with_reducible assumption) | (with_reducible refine bdrawn ?_ _) | (with_reducible refine Below.alloc ?_ ?_ _) | (with_reducible refine Below.drew ?_) | (with_reducible refine Below.setCell ?_ ?_ _) | go_size)) h3 (by go_size)
  have C3 := (bcell H3).1; have F3 := (bcell H3).2
  go_wp2_with (first | (go_at_call 77; refine (btw_eq 77 _ _ _ true _ hbt (impl_between _ _ _ _)).mono ?_; rintro e wq ⟨rfl, rfl⟩))
  refine (impl_BankCount_is g bc hbc _).mono ?_
  rintro e w4 ⟨rfl, h4⟩
  have s4 := h4.size
  try simp only [World.size_alloc, World.size_setCell, World.size_drew, World.heap_drewN] at s4
  have B4_1 := bnext (by first | (with_reducible exact B3_1) | exact (bgrow B3_1 (by go_size) (by repeat' (first | (with_reducible exact Below.refl _ _) | (with_reducible assumption) | (with_reducible refine bdrawn ?_ _) | (with_reducible refine Below.alloc ?_ ?_ _) | (with_reducible refine Below.drew ?_) | (with_reducible refine Below.setCell ?_ ?_ _) | go_size)))) h4 (by go_size)
  have z4_0 : w.heap.size < w4.heap.size := by omega
  have q4_0 := fun o => (bcell B4_1).1 (w.heap.size) o (by go_size)
  have f4_0 := fun o => (bcell B4_1).2 (w.heap.size) o (by go_size)
  have z4_1 : w.heap.size + 1 < w4.heap.size := by omega
  have q4_1 := fun o => (bcell B4_1).1 (w.heap.size + 1) o (by go_size)
  have f4_1 := fun o => (bcell B4_1).2 (w.heap.size + 1) o (by go_size)
  have z4_2 : w.heap.size + 1 + 1 < w4.heap.size := by omega
  have q4_2 := fun o => (bcell B4_1).1 (w.heap.size + 1 + 1) o (by go_size)
  have f4_2 := fun o => (bcell B4_1).2 (w.heap.size + 1 + 1) o (by go_size)
  have H4 : Below w.heap.size w w4 := bthen (by repeat' (first | (with_reducible exact Below.refl _ _) | (with_reducible assumption) | (with_reducible refine bdrawn ?_ _) | (with_reducible refine Below.alloc ?_ ?_ _) | (with_reducible refine Below.drew ?_) | (with_reducible refine Below.setCell ?_ ?_ _) | go_size)) h4 (by go_size)
  have C4 := (bcell H4).1; have F4 := (bcell H4).2
  go_wp2_with fail
  obtain ⟨y1, y2, y3, y4⟩ := Y.out
  obtain ⟨y5, y6⟩ := Y5.out
  have hA : Below w4.heap.size w4 (w4.alloc (.cells #[.int .i64 0, .int .i64 0, .int .i64 0] 138)) := Below.alloc (Below.refl _ _) (Nat.le_refl _) _
  have e2 : (w4.alloc (.cells #[.int .i64 0, .int .i64 0, .int .i64 0] 138)).cell? ⟨w.heap.size, 2, none⟩ = some (.int .i64 g.rw) := ((bcell hA).1 _ _ (by omega)).trans ((q4_0 2).trans (by simp [go_sem]))
  have e3 : (w4.alloc (.cells #[.int .i64 0, .int .i64 0, .int .i64 0] 138)).cell? ⟨w.heap.size, 3, none⟩ = some (.int .i64 g.cl) := ((bcell hA).1 _ _ (by omega)).trans ((q4_0 3).trans (by simp [go_sem]))
  have eh : (w4.alloc (.cells #[.int .i64 0, .int .i64 0, .int .i64 0] 138)).cell? ⟨w.heap.size + 1, 1, none⟩ = some (.bool true) := ((bcell hA).1 _ _ (by omega)).trans ((q4_1 1).trans (by simp [go_sem]))
  have er0 : (w4.alloc (.cells #[.int .i64 0, .int .i64 0, .int .i64 0] 138)).cell? ⟨w.heap.size + 1 + 1, 0, none⟩ = some (.int .i64 0) := ((bcell hA).1 _ _ (by omega)).trans ((q4_2 0).trans (by simp [go_sem]))
  have fr0 : (w4.alloc (.cells #[.int .i64 0, .int .i64 0, .int .i64 0] 138)).frozen? ⟨w.heap.size + 1 + 1, 0, none⟩ = false := ((bcell hA).2 _ _ (by omega)).trans ((f4_2 0).trans (by simp [go_sem]))
  have er1 : (w4.alloc (.cells #[.int .i64 0, .int .i64 0, .int .i64 0] 138)).cell? ⟨w.heap.size + 1 + 1, 1, none⟩ = some (.int .i64 0) := ((bcell hA).1 _ _ (by omega)).trans ((q4_2 1).trans (by simp [go_sem]))
  have fr1 : (w4.alloc (.cells #[.int .i64 0, .int .i64 0, .int .i64 0] 138)).frozen? ⟨w.heap.size + 1 + 1, 1, none⟩ = false := ((bcell hA).2 _ _ (by omega)).trans ((f4_2 1).trans (by simp [go_sem]))
  have er2 : (w4.alloc (.cells #[.int .i64 0, .int .i64 0, .int .i64 0] 138)).cell? ⟨w.heap.size + 1 + 1, 2, none⟩ = some (.int .i64 0) := ((bcell hA).1 _ _ (by omega)).trans ((q4_2 2).trans (by simp [go_sem]))
  have fr2 : (w4.alloc (.cells #[.int .i64 0, .int .i64 0, .int .i64 0] 138)).frozen? ⟨w.heap.size + 1 + 1, 2, none⟩ = false := ((bcell hA).2 _ _ (by omega)).trans ((f4_2 2).trans (by simp [go_sem]))
  have kn := alloc_at w4 (.cells #[.int .i64 0, .int .i64 0, .int .i64 0] 138) _ rfl
  have hB := bthen H4 hA (by omega)
  have hps : ¬ w4.heap.size = w.heap.size + 1 + 1 := by omega
  have hpt : w.heap.size + 3 ≤ w4.heap.size := by omega
  have hpu : w4.heap.size < (w4.alloc (.cells #[.int .i64 0, .int .i64 0, .int .i64 0] 138)).heap.size := by simp
  generalize (w4.alloc (.cells #[.int .i64 0, .int .i64 0, .int .i64 0] 138)) = W at *
  generalize w4.heap.size = p at *
  have n0 := cell_blk kn 0; have n1 := cell_blk kn 1; have n2 := cell_blk kn 2; have nf := fun o => free_blk kn o
  clear hA kn
  go_still_tail 16, (by kernel_rfl)
  go_wp2
  refine bodyPost_ret (by simp [results, Try.results97, go_sem, *]; try rfl) rfl ?_
  exact ⟨rfl, by go_grown⟩
set_option maxRecDepth 100000 in
set_option maxHeartbeats 4000000 in
theorem impl_MapLine_2f (g : Ge) (n b r c : Int) (w : World) (hv : mapOk g 2 n = true) (he : mapL g 2 false n = ⟨b, r, c⟩) :
    Calls Try.prog 97 #[.agg #[.int .i64 g.gr, .int .i64 g.bk, .int .i64 g.rw, .int .i64 g.cl], .agg #[.int .i64 2, .bool false], .int .i64 n] w fun e w' => e = .returned (.tuple #[.agg #[.int .i64 b, .int .i64 r, .int .i64 c], .bool true]) ∧ Below w.heap.size w w' := by
  obtain ⟨hg, _, n0, n1, hbt, hmo⟩ := mapOk_bd hv
  obtain ⟨lc, hlc⟩ : ∃ lc, lineCnt g = lc := ⟨_, rfl⟩
  obtain ⟨bc, hbc⟩ : ∃ bc, bankCnt g = bc := ⟨_, rfl⟩
  have hbd := lineCnt_bd g; have hkb := bank_bd hg
  have hgd := geoOk_bd hg
  rw [show g.gr * g.bk = bc by rw [← hbc]; unfold bankCnt; rw [if_pos hg]] at hkb
  have k1 := hkb.1; have k2 := hkb.2
  have g5 := hgd.2.2.2.2.1; have g6 := hgd.2.2.2.2.2.1; have g7 := hgd.2.2.2.2.2.2.1; have g8 := hgd.2.2.2.2.2.2.2
  have had := mapL_ok false hv
  rw [he] at had
  have had := adOk_num had
  rw [hlc] at hbd hbt
  have b0 := hbd.1; have b1 := hbd.2
  have n2 : n ≤ lc - 1 := (btw_true.1 hbt).2
  have d1 := had.1; have d2 := had.2.1; have d3 := had.2.2.1; have d4 := had.2.2.2
  simp only [mapL, hbc, Bool.false_eq_true, if_false, Ad.mk.injEq, if_true, show ¬ (1 : Int) = 0 by omega, show ¬ (2 : Int) = 0 by omega, show ¬ (2 : Int) = 1 by omega] at he
  obtain ⟨X, hX⟩ : ∃ X, n / g.cl = X := ⟨_, rfl⟩
  rw [hX] at he
  have q1 : 0 ≤ X := hX ▸ Int.ediv_nonneg n0 (by omega)
  have q2 : X ≤ n := hX ▸ Int.ediv_le_self _ n0
  have y1 : n.tdiv g.cl = X := by rw [Int.tdiv_eq_ediv_of_nonneg n0]; exact hX
  have y2 : X.tdiv g.rw = b := by rw [Int.tdiv_eq_ediv_of_nonneg q1]; exact he.1
  have y3 : X.tmod g.rw = r := by rw [Int.tmod_eq_emod_of_nonneg q1]; exact he.2.1
  have y4 : n.tmod g.cl = c := by rw [Int.tmod_eq_emod_of_nonneg n0]; exact he.2.2
  have z1 : (g.cl == 0) = false := by simp; omega
  have z2 : (g.rw == 0) = false := by simp; omega
  have z3 : ¬ g.cl = 0 := by omega
  have z4 : ¬ g.rw = 0 := by omega
  have u1 : IntKind.i64.wrap X = X := IntWalk.i64_in _ (by omega)
  have u2 : IntKind.i64.wrap b = b := IntWalk.i64_in _ (by omega)
  have Y := hide (And.intro y1 (And.intro y2 (And.intro y3 y4)))
  skip
  clear y1 y2 y3 y4 hbd hgd hkb he hX had hv n1
  go_enter Try.func97, Try.ntmps97
  go_wp2_with fail
  refine (impl_GeometryOk_is g true hg _).mono ?_
  rintro e w1 ⟨rfl, h1⟩
  have s1 := h1.size
  try simp only [World.size_alloc, World.size_setCell, World.size_drew, World.heap_drewN] at s1
  have B1_1 := h1
  have z1_0 : w.heap.size < w1.heap.size := by omega
  have q1_0 := fun o => (bcell B1_1).1 (w.heap.size) o (by go_size)
  have f1_0 := fun o => (bcell B1_1).2 (w.heap.size) o (by go_size)
  have z1_1 : w.heap.size + 1 < w1.heap.size := by omega
  have q1_1 := fun o => (bcell B1_1).1 (w.heap.size + 1) o (by go_size)
  have f1_1 := fun o => (bcell B1_1).2 (w.heap.size + 1) o (by go_size)
  have z1_2 : w.heap.size + 1 + 1 < w1.heap.size := by omega
  have q1_2 := fun o => (bcell B1_1).1 (w.heap.size + 1 + 1) o (by go_size)
  have f1_2 := fun o => (bcell B1_1).2 (w.heap.size + 1 + 1) o (by go_size)
  have H1 : Below w.heap.size w w1 := bthen (by repeat' (first | (with_reducible exact Below.refl _ _) | (with_reducible assumption) | (with_reducible refine bdrawn ?_ _) | (with_reducible refine Below.alloc ?_ ?_ _) | (with_reducible refine Below.drew ?_) | (with_reducible refine Below.setCell ?_ ?_ _) | go_size)) h1 (by go_size)
  have C1 := (bcell H1).1; have F1 := (bcell H1).2
  go_wp2_with fail
  refine (impl_MappingOk 2 false true hmo _).mono ?_
  rintro e w2 ⟨rfl, h2⟩
  have s2 := h2.size
  try simp only [World.size_alloc, World.size_setCell, World.size_drew, World.heap_drewN] at s2
  have B2_1 := bnext (by first | (with_reducible exact B1_1) | exact (bgrow B1_1 (by go_size) (by repeat' (first | (with_reducible exact Below.refl _ _) | (with_reducible assumption) | (with_reducible refine bdrawn ?_ _) | (with_reducible refine Below.alloc ?_ ?_ _) | (with_reducible refine Below.drew ?_) | (with_reducible refine Below.setCell ?_ ?_ _) | go_size)))) h2 (by go_size)
  have z2_0 : w.heap.size < w2.heap.size := by omega
  have q2_0 := fun o => (bcell B2_1).1 (w.heap.size) o (by go_size)
  have f2_0 := fun o => (bcell B2_1).2 (w.heap.size) o (by go_size)
  have z2_1 : w.heap.size + 1 < w2.heap.size := by omega
  have q2_1 := fun o => (bcell B2_1).1 (w.heap.size + 1) o (by go_size)
  have f2_1 := fun o => (bcell B2_1).2 (w.heap.size + 1) o (by go_size)
  have z2_2 : w.heap.size + 1 + 1 < w2.heap.size := by omega
  have q2_2 := fun o => (bcell B2_1).1 (w.heap.size + 1 + 1) o (by go_size)
  have f2_2 := fun o => (bcell B2_1).2 (w.heap.size + 1 + 1) o (by go_size)
  have H2 : Below w.heap.size w w2 := bthen (by repeat' (first | (with_reducible exact Below.refl _ _) | (with_reducible assumption) | (with_reducible refine bdrawn ?_ _) | (with_reducible refine Below.alloc ?_ ?_ _) | (with_reducible refine Below.drew ?_) | (with_reducible refine Below.setCell ?_ ?_ _) | go_size)) h2 (by go_size)
  have C2 := (bcell H2).1; have F2 := (bcell H2).2
  go_wp2_with fail
  refine (impl_LineCount_is g lc hlc _).mono ?_
  rintro e w3 ⟨rfl, h3⟩
  have s3 := h3.size
  try simp only [World.size_alloc, World.size_setCell, World.size_drew, World.heap_drewN] at s3
  have B3_1 := bnext (by first | (with_reducible exact B2_1) | exact (bgrow B2_1 (by go_size) (by repeat' (first | (with_reducible exact Below.refl _ _) | (with_reducible assumption) | (with_reducible refine bdrawn ?_ _) | (with_reducible refine Below.alloc ?_ ?_ _) | (with_reducible refine Below.drew ?_) | (with_reducible refine Below.setCell ?_ ?_ _) | go_size)))) h3 (by go_size)
  have z3_0 : w.heap.size < w3.heap.size := by omega
  have q3_0 := fun o => (bcell B3_1).1 (w.heap.size) o (by go_size)
  have f3_0 := fun o => (bcell B3_1).2 (w.heap.size) o (by go_size)
  have z3_1 : w.heap.size + 1 < w3.heap.size := by omega
  have q3_1 := fun o => (bcell B3_1).1 (w.heap.size + 1) o (by go_size)
  have f3_1 := fun o => (bcell B3_1).2 (w.heap.size + 1) o (by go_size)
  have z3_2 : w.heap.size + 1 + 1 < w3.heap.size := by omega
  have q3_2 := fun o => (bcell B3_1).1 (w.heap.size + 1 + 1) o (by go_size)
  have f3_2 := fun o => (bcell B3_1).2 (w.heap.size + 1 + 1) o (by go_size)
  have H3 : Below w.heap.size w w3 := bthen (by repeat' (first | (with_reducible exact Below.refl _ _) | (with_reducible assumption) | (with_reducible refine bdrawn ?_ _) | (with_reducible refine Below.alloc ?_ ?_ _) | (with_reducible refine Below.drew ?_) | (with_reducible refine Below.setCell ?_ ?_ _) | go_size)) h3 (by go_size)
  have C3 := (bcell H3).1; have F3 := (bcell H3).2
  go_wp2_with (first | (go_at_call 77; refine (btw_eq 77 _ _ _ true _ hbt (impl_between _ _ _ _)).mono ?_; rintro e wq ⟨rfl, rfl⟩))
  refine (impl_BankCount_is g bc hbc _).mono ?_
  rintro e w4 ⟨rfl, h4⟩
  have s4 := h4.size
  try simp only [World.size_alloc, World.size_setCell, World.size_drew, World.heap_drewN] at s4
  have B4_1 := bnext (by first | (with_reducible exact B3_1) | exact (bgrow B3_1 (by go_size) (by repeat' (first | (with_reducible exact Below.refl _ _) | (with_reducible assumption) | (with_reducible refine bdrawn ?_ _) | (with_reducible refine Below.alloc ?_ ?_ _) | (with_reducible refine Below.drew ?_) | (with_reducible refine Below.setCell ?_ ?_ _) | go_size)))) h4 (by go_size)
  have z4_0 : w.heap.size < w4.heap.size := by omega
  have q4_0 := fun o => (bcell B4_1).1 (w.heap.size) o (by go_size)
  have f4_0 := fun o => (bcell B4_1).2 (w.heap.size) o (by go_size)
  have z4_1 : w.heap.size + 1 < w4.heap.size := by omega
  have q4_1 := fun o => (bcell B4_1).1 (w.heap.size + 1) o (by go_size)
  have f4_1 := fun o => (bcell B4_1).2 (w.heap.size + 1) o (by go_size)
  have z4_2 : w.heap.size + 1 + 1 < w4.heap.size := by omega
  have q4_2 := fun o => (bcell B4_1).1 (w.heap.size + 1 + 1) o (by go_size)
  have f4_2 := fun o => (bcell B4_1).2 (w.heap.size + 1 + 1) o (by go_size)
  have H4 : Below w.heap.size w w4 := bthen (by repeat' (first | (with_reducible exact Below.refl _ _) | (with_reducible assumption) | (with_reducible refine bdrawn ?_ _) | (with_reducible refine Below.alloc ?_ ?_ _) | (with_reducible refine Below.drew ?_) | (with_reducible refine Below.setCell ?_ ?_ _) | go_size)) h4 (by go_size)
  have C4 := (bcell H4).1; have F4 := (bcell H4).2
  go_wp2_with fail
  obtain ⟨y1, y2, y3, y4⟩ := Y.out
  have hA : Below w4.heap.size w4 (w4.alloc (.cells #[.int .i64 0, .int .i64 0, .int .i64 0] 138)) := Below.alloc (Below.refl _ _) (Nat.le_refl _) _
  have e2 : (w4.alloc (.cells #[.int .i64 0, .int .i64 0, .int .i64 0] 138)).cell? ⟨w.heap.size, 2, none⟩ = some (.int .i64 g.rw) := ((bcell hA).1 _ _ (by omega)).trans ((q4_0 2).trans (by simp [go_sem]))
  have e3 : (w4.alloc (.cells #[.int .i64 0, .int .i64 0, .int .i64 0] 138)).cell? ⟨w.heap.size, 3, none⟩ = some (.int .i64 g.cl) := ((bcell hA).1 _ _ (by omega)).trans ((q4_0 3).trans (by simp [go_sem]))
  have eh : (w4.alloc (.cells #[.int .i64 0, .int .i64 0, .int .i64 0] 138)).cell? ⟨w.heap.size + 1, 1, none⟩ = some (.bool false) := ((bcell hA).1 _ _ (by omega)).trans ((q4_1 1).trans (by simp [go_sem]))
  have er0 : (w4.alloc (.cells #[.int .i64 0, .int .i64 0, .int .i64 0] 138)).cell? ⟨w.heap.size + 1 + 1, 0, none⟩ = some (.int .i64 0) := ((bcell hA).1 _ _ (by omega)).trans ((q4_2 0).trans (by simp [go_sem]))
  have fr0 : (w4.alloc (.cells #[.int .i64 0, .int .i64 0, .int .i64 0] 138)).frozen? ⟨w.heap.size + 1 + 1, 0, none⟩ = false := ((bcell hA).2 _ _ (by omega)).trans ((f4_2 0).trans (by simp [go_sem]))
  have er1 : (w4.alloc (.cells #[.int .i64 0, .int .i64 0, .int .i64 0] 138)).cell? ⟨w.heap.size + 1 + 1, 1, none⟩ = some (.int .i64 0) := ((bcell hA).1 _ _ (by omega)).trans ((q4_2 1).trans (by simp [go_sem]))
  have fr1 : (w4.alloc (.cells #[.int .i64 0, .int .i64 0, .int .i64 0] 138)).frozen? ⟨w.heap.size + 1 + 1, 1, none⟩ = false := ((bcell hA).2 _ _ (by omega)).trans ((f4_2 1).trans (by simp [go_sem]))
  have er2 : (w4.alloc (.cells #[.int .i64 0, .int .i64 0, .int .i64 0] 138)).cell? ⟨w.heap.size + 1 + 1, 2, none⟩ = some (.int .i64 0) := ((bcell hA).1 _ _ (by omega)).trans ((q4_2 2).trans (by simp [go_sem]))
  have fr2 : (w4.alloc (.cells #[.int .i64 0, .int .i64 0, .int .i64 0] 138)).frozen? ⟨w.heap.size + 1 + 1, 2, none⟩ = false := ((bcell hA).2 _ _ (by omega)).trans ((f4_2 2).trans (by simp [go_sem]))
  have kn := alloc_at w4 (.cells #[.int .i64 0, .int .i64 0, .int .i64 0] 138) _ rfl
  have hB := bthen H4 hA (by omega)
  have hps : ¬ w4.heap.size = w.heap.size + 1 + 1 := by omega
  have hpt : w.heap.size + 3 ≤ w4.heap.size := by omega
  have hpu : w4.heap.size < (w4.alloc (.cells #[.int .i64 0, .int .i64 0, .int .i64 0] 138)).heap.size := by simp
  generalize (w4.alloc (.cells #[.int .i64 0, .int .i64 0, .int .i64 0] 138)) = W at *
  generalize w4.heap.size = p at *
  have n0 := cell_blk kn 0; have n1 := cell_blk kn 1; have n2 := cell_blk kn 2; have nf := fun o => free_blk kn o
  clear hA kn
  go_still_tail 19, (by kernel_rfl)
  go_wp2
  refine bodyPost_ret (by simp [results, Try.results97, go_sem, *]; try rfl) rfl ?_
  exact ⟨rfl, by go_grown⟩
set_option maxRecDepth 100000 in
set_option maxHeartbeats 4000000 in
theorem impl_MapLine_2t (g : Ge) (n b r c h : Int) (w : World) (hv : mapOk g 2 n = true) (he : mapL g 2 false n = ⟨b, r, c⟩) (hh : (b + r) % bankCnt g = h) :
    Calls Try.prog 97 #[.agg #[.int .i64 g.gr, .int .i64 g.bk, .int .i64 g.rw, .int .i64 g.cl], .agg #[.int .i64 2, .bool true], .int .i64 n] w fun e w' => e = .returned (.tuple #[.agg #[.int .i64 h, .int .i64 r, .int .i64 c], .bool true]) ∧ Below w.heap.size w w' := by
  obtain ⟨hg, _, n0, n1, hbt, hmo⟩ := mapOk_bd hv
  obtain ⟨lc, hlc⟩ : ∃ lc, lineCnt g = lc := ⟨_, rfl⟩
  obtain ⟨bc, hbc⟩ : ∃ bc, bankCnt g = bc := ⟨_, rfl⟩
  have hbd := lineCnt_bd g; have hkb := bank_bd hg
  have hgd := geoOk_bd hg
  rw [show g.gr * g.bk = bc by rw [← hbc]; unfold bankCnt; rw [if_pos hg]] at hkb
  have k1 := hkb.1; have k2 := hkb.2
  have g5 := hgd.2.2.2.2.1; have g6 := hgd.2.2.2.2.2.1; have g7 := hgd.2.2.2.2.2.2.1; have g8 := hgd.2.2.2.2.2.2.2
  have had := mapL_ok false hv
  rw [he] at had
  have had := adOk_num had
  rw [hlc] at hbd hbt
  have b0 := hbd.1; have b1 := hbd.2
  have n2 : n ≤ lc - 1 := (btw_true.1 hbt).2
  have d1 := had.1; have d2 := had.2.1; have d3 := had.2.2.1; have d4 := had.2.2.2
  simp only [mapL, hbc, Bool.false_eq_true, if_false, Ad.mk.injEq, if_true, show ¬ (1 : Int) = 0 by omega, show ¬ (2 : Int) = 0 by omega, show ¬ (2 : Int) = 1 by omega] at he
  obtain ⟨X, hX⟩ : ∃ X, n / g.cl = X := ⟨_, rfl⟩
  rw [hX] at he
  have q1 : 0 ≤ X := hX ▸ Int.ediv_nonneg n0 (by omega)
  have q2 : X ≤ n := hX ▸ Int.ediv_le_self _ n0
  have y1 : n.tdiv g.cl = X := by rw [Int.tdiv_eq_ediv_of_nonneg n0]; exact hX
  have y2 : X.tdiv g.rw = b := by rw [Int.tdiv_eq_ediv_of_nonneg q1]; exact he.1
  have y3 : X.tmod g.rw = r := by rw [Int.tmod_eq_emod_of_nonneg q1]; exact he.2.1
  have y4 : n.tmod g.cl = c := by rw [Int.tmod_eq_emod_of_nonneg n0]; exact he.2.2
  have y5 : (b + r).tmod bc = h := by rw [Int.tmod_eq_emod_of_nonneg (by omega), ← hbc]; exact hh
  have y6 : IntKind.i64.wrap (b + r) = b + r := IntWalk.i64_in _ (by omega)
  have z1 : (g.cl == 0) = false := by simp; omega
  have z2 : (g.rw == 0) = false := by simp; omega
  have z3 : ¬ g.cl = 0 := by omega
  have z4 : ¬ g.rw = 0 := by omega
  have z5 : (bc == 0) = false := by simp; omega
  have z6 : ¬ bc = 0 := by omega
  have u1 : IntKind.i64.wrap X = X := IntWalk.i64_in _ (by omega)
  have u2 : IntKind.i64.wrap b = b := IntWalk.i64_in _ (by omega)
  have Y := hide (And.intro y1 (And.intro y2 (And.intro y3 y4)))
  have Y5 := hide (And.intro y5 y6)
  clear y1 y2 y3 y4 hbd hgd hkb he hX had hv n1 y5 y6 hh
  go_enter Try.func97, Try.ntmps97
  go_wp2_with fail
  refine (impl_GeometryOk_is g true hg _).mono ?_
  rintro e w1 ⟨rfl, h1⟩
  have s1 := h1.size
  try simp only [World.size_alloc, World.size_setCell, World.size_drew, World.heap_drewN] at s1
  have B1_1 := h1
  have z1_0 : w.heap.size < w1.heap.size := by omega
  have q1_0 := fun o => (bcell B1_1).1 (w.heap.size) o (by go_size)
  have f1_0 := fun o => (bcell B1_1).2 (w.heap.size) o (by go_size)
  have z1_1 : w.heap.size + 1 < w1.heap.size := by omega
  have q1_1 := fun o => (bcell B1_1).1 (w.heap.size + 1) o (by go_size)
  have f1_1 := fun o => (bcell B1_1).2 (w.heap.size + 1) o (by go_size)
  have z1_2 : w.heap.size + 1 + 1 < w1.heap.size := by omega
  have q1_2 := fun o => (bcell B1_1).1 (w.heap.size + 1 + 1) o (by go_size)
  have f1_2 := fun o => (bcell B1_1).2 (w.heap.size + 1 + 1) o (by go_size)
  have H1 : Below w.heap.size w w1 := bthen (by repeat' (first | (with_reducible exact Below.refl _ _) | (with_reducible assumption) | (with_reducible refine bdrawn ?_ _) | (with_reducible refine Below.alloc ?_ ?_ _) | (with_reducible refine Below.drew ?_) | (with_reducible refine Below.setCell ?_ ?_ _) | go_size)) h1 (by go_size)
  have C1 := (bcell H1).1; have F1 := (bcell H1).2
  go_wp2_with fail
  refine (impl_MappingOk 2 true true hmo _).mono ?_
  rintro e w2 ⟨rfl, h2⟩
  have s2 := h2.size
  try simp only [World.size_alloc, World.size_setCell, World.size_drew, World.heap_drewN] at s2
  have B2_1 := bnext (by first | (with_reducible exact B1_1) | exact (bgrow B1_1 (by go_size) (by repeat' (first | (with_reducible exact Below.refl _ _) | (with_reducible assumption) | (with_reducible refine bdrawn ?_ _) | (with_reducible refine Below.alloc ?_ ?_ _) | (with_reducible refine Below.drew ?_) | (with_reducible refine Below.setCell ?_ ?_ _) | go_size)))) h2 (by go_size)
  have z2_0 : w.heap.size < w2.heap.size := by omega
  have q2_0 := fun o => (bcell B2_1).1 (w.heap.size) o (by go_size)
  have f2_0 := fun o => (bcell B2_1).2 (w.heap.size) o (by go_size)
  have z2_1 : w.heap.size + 1 < w2.heap.size := by omega
  have q2_1 := fun o => (bcell B2_1).1 (w.heap.size + 1) o (by go_size)
  have f2_1 := fun o => (bcell B2_1).2 (w.heap.size + 1) o (by go_size)
  have z2_2 : w.heap.size + 1 + 1 < w2.heap.size := by omega
  have q2_2 := fun o => (bcell B2_1).1 (w.heap.size + 1 + 1) o (by go_size)
  have f2_2 := fun o => (bcell B2_1).2 (w.heap.size + 1 + 1) o (by go_size)
  have H2 : Below w.heap.size w w2 := bthen (by repeat' (first | (with_reducible exact Below.refl _ _) | (with_reducible assumption) | (with_reducible refine bdrawn ?_ _) | (with_reducible refine Below.alloc ?_ ?_ _) | (with_reducible refine Below.drew ?_) | (with_reducible refine Below.setCell ?_ ?_ _) | go_size)) h2 (by go_size)
  have C2 := (bcell H2).1; have F2 := (bcell H2).2
  go_wp2_with fail
  refine (impl_LineCount_is g lc hlc _).mono ?_
  rintro e w3 ⟨rfl, h3⟩
  have s3 := h3.size
  try simp only [World.size_alloc, World.size_setCell, World.size_drew, World.heap_drewN] at s3
  have B3_1 := bnext (by first | (with_reducible exact B2_1) | exact (bgrow B2_1 (by go_size) (by repeat' (first | (with_reducible exact Below.refl _ _) | (with_reducible assumption) | (with_reducible refine bdrawn ?_ _) | (with_reducible refine Below.alloc ?_ ?_ _) | (with_reducible refine Below.drew ?_) | (with_reducible refine Below.setCell ?_ ?_ _) | go_size)))) h3 (by go_size)
  have z3_0 : w.heap.size < w3.heap.size := by omega
  have q3_0 := fun o => (bcell B3_1).1 (w.heap.size) o (by go_size)
  have f3_0 := fun o => (bcell B3_1).2 (w.heap.size) o (by go_size)
  have z3_1 : w.heap.size + 1 < w3.heap.size := by omega
  have q3_1 := fun o => (bcell B3_1).1 (w.heap.size + 1) o (by go_size)
  have f3_1 := fun o => (bcell B3_1).2 (w.heap.size + 1) o (by go_size)
  have z3_2 : w.heap.size + 1 + 1 < w3.heap.size := by omega
  have q3_2 := fun o => (bcell B3_1).1 (w.heap.size + 1 + 1) o (by go_size)
  have f3_2 := fun o => (bcell B3_1).2 (w.heap.size + 1 + 1) o (by go_size)
  have H3 : Below w.heap.size w w3 := bthen (by repeat' (first | (with_reducible exact Below.refl _ _) | (with_reducible assumption) | (with_reducible refine bdrawn ?_ _) | (with_reducible refine Below.alloc ?_ ?_ _) | (with_reducible refine Below.drew ?_) | (with_reducible refine Below.setCell ?_ ?_ _) | go_size)) h3 (by go_size)
  have C3 := (bcell H3).1; have F3 := (bcell H3).2
  go_wp2_with (first | (go_at_call 77; refine (btw_eq 77 _ _ _ true _ hbt (impl_between _ _ _ _)).mono ?_; rintro e wq ⟨rfl, rfl⟩))
  refine (impl_BankCount_is g bc hbc _).mono ?_
  rintro e w4 ⟨rfl, h4⟩
  have s4 := h4.size
  try simp only [World.size_alloc, World.size_setCell, World.size_drew, World.heap_drewN] at s4
  have B4_1 := bnext (by first | (with_reducible exact B3_1) | exact (bgrow B3_1 (by go_size) (by repeat' (first | (with_reducible exact Below.refl _ _) | (with_reducible assumption) | (with_reducible refine bdrawn ?_ _) | (with_reducible refine Below.alloc ?_ ?_ _) | (with_reducible refine Below.drew ?_) | (with_reducible refine Below.setCell ?_ ?_ _) | go_size)))) h4 (by go_size)
  have z4_0 : w.heap.size < w4.heap.size := by omega
  have q4_0 := fun o => (bcell B4_1).1 (w.heap.size) o (by go_size)
  have f4_0 := fun o => (bcell B4_1).2 (w.heap.size) o (by go_size)
  have z4_1 : w.heap.size + 1 < w4.heap.size := by omega
  have q4_1 := fun o => (bcell B4_1).1 (w.heap.size + 1) o (by go_size)
  have f4_1 := fun o => (bcell B4_1).2 (w.heap.size + 1) o (by go_size)
  have z4_2 : w.heap.size + 1 + 1 < w4.heap.size := by omega
  have q4_2 := fun o => (bcell B4_1).1 (w.heap.size + 1 + 1) o (by go_size)
  have f4_2 := fun o => (bcell B4_1).2 (w.heap.size + 1 + 1) o (by go_size)
  have H4 : Below w.heap.size w w4 := bthen (by repeat' (first | (with_reducible exact Below.refl _ _) | (with_reducible assumption) | (with_reducible refine bdrawn ?_ _) | (with_reducible refine Below.alloc ?_ ?_ _) | (with_reducible refine Below.drew ?_) | (with_reducible refine Below.setCell ?_ ?_ _) | go_size)) h4 (by go_size)
  have C4 := (bcell H4).1; have F4 := (bcell H4).2
  go_wp2_with fail
  obtain ⟨y1, y2, y3, y4⟩ := Y.out
  obtain ⟨y5, y6⟩ := Y5.out
  have hA : Below w4.heap.size w4 (w4.alloc (.cells #[.int .i64 0, .int .i64 0, .int .i64 0] 138)) := Below.alloc (Below.refl _ _) (Nat.le_refl _) _
  have e2 : (w4.alloc (.cells #[.int .i64 0, .int .i64 0, .int .i64 0] 138)).cell? ⟨w.heap.size, 2, none⟩ = some (.int .i64 g.rw) := ((bcell hA).1 _ _ (by omega)).trans ((q4_0 2).trans (by simp [go_sem]))
  have e3 : (w4.alloc (.cells #[.int .i64 0, .int .i64 0, .int .i64 0] 138)).cell? ⟨w.heap.size, 3, none⟩ = some (.int .i64 g.cl) := ((bcell hA).1 _ _ (by omega)).trans ((q4_0 3).trans (by simp [go_sem]))
  have eh : (w4.alloc (.cells #[.int .i64 0, .int .i64 0, .int .i64 0] 138)).cell? ⟨w.heap.size + 1, 1, none⟩ = some (.bool true) := ((bcell hA).1 _ _ (by omega)).trans ((q4_1 1).trans (by simp [go_sem]))
  have er0 : (w4.alloc (.cells #[.int .i64 0, .int .i64 0, .int .i64 0] 138)).cell? ⟨w.heap.size + 1 + 1, 0, none⟩ = some (.int .i64 0) := ((bcell hA).1 _ _ (by omega)).trans ((q4_2 0).trans (by simp [go_sem]))
  have fr0 : (w4.alloc (.cells #[.int .i64 0, .int .i64 0, .int .i64 0] 138)).frozen? ⟨w.heap.size + 1 + 1, 0, none⟩ = false := ((bcell hA).2 _ _ (by omega)).trans ((f4_2 0).trans (by simp [go_sem]))
  have er1 : (w4.alloc (.cells #[.int .i64 0, .int .i64 0, .int .i64 0] 138)).cell? ⟨w.heap.size + 1 + 1, 1, none⟩ = some (.int .i64 0) := ((bcell hA).1 _ _ (by omega)).trans ((q4_2 1).trans (by simp [go_sem]))
  have fr1 : (w4.alloc (.cells #[.int .i64 0, .int .i64 0, .int .i64 0] 138)).frozen? ⟨w.heap.size + 1 + 1, 1, none⟩ = false := ((bcell hA).2 _ _ (by omega)).trans ((f4_2 1).trans (by simp [go_sem]))
  have er2 : (w4.alloc (.cells #[.int .i64 0, .int .i64 0, .int .i64 0] 138)).cell? ⟨w.heap.size + 1 + 1, 2, none⟩ = some (.int .i64 0) := ((bcell hA).1 _ _ (by omega)).trans ((q4_2 2).trans (by simp [go_sem]))
  have fr2 : (w4.alloc (.cells #[.int .i64 0, .int .i64 0, .int .i64 0] 138)).frozen? ⟨w.heap.size + 1 + 1, 2, none⟩ = false := ((bcell hA).2 _ _ (by omega)).trans ((f4_2 2).trans (by simp [go_sem]))
  have kn := alloc_at w4 (.cells #[.int .i64 0, .int .i64 0, .int .i64 0] 138) _ rfl
  have hB := bthen H4 hA (by omega)
  have hps : ¬ w4.heap.size = w.heap.size + 1 + 1 := by omega
  have hpt : w.heap.size + 3 ≤ w4.heap.size := by omega
  have hpu : w4.heap.size < (w4.alloc (.cells #[.int .i64 0, .int .i64 0, .int .i64 0] 138)).heap.size := by simp
  generalize (w4.alloc (.cells #[.int .i64 0, .int .i64 0, .int .i64 0] 138)) = W at *
  generalize w4.heap.size = p at *
  have n0 := cell_blk kn 0; have n1 := cell_blk kn 1; have n2 := cell_blk kn 2; have nf := fun o => free_blk kn o
  clear hA kn
  go_still_tail 19, (by kernel_rfl)
  go_wp2
  refine bodyPost_ret (by simp [results, Try.results97, go_sem, *]; try rfl) rfl ?_
  exact ⟨rfl, by go_grown⟩
set_option maxRecDepth 100000 in
set_option maxHeartbeats 4000000 in
theorem spec_MapLine_no (g : Ge) (mo n : Int) (mh : Bool) (hv : mapOk g mo n = false) (w : World) :
    Calls Try.prog 107 #[.agg #[.int .i64 g.gr, .int .i64 g.bk, .int .i64 g.rw, .int .i64 g.cl], .agg #[.int .i64 mo, .bool mh], .int .i64 n] w fun e w' => e = .returned (.tuple #[.agg #[.int .i64 0, .int .i64 0, .int .i64 0], .bool false]) ∧ Below w.heap.size w w' := by
  cases hmo : btw mo 0 2
  · go_enter Try.func107, Try.ntmps107
    go_wp2_with fail
    refine (spec_MappingOk mo mh false hmo _).mono ?_
    rintro e w1 ⟨rfl, h1⟩
    have s1 := h1.size
    try simp only [World.size_alloc, World.size_setCell, World.size_drew, World.heap_drewN] at s1
    have B1_1 := h1
    have z1_0 : w.heap.size < w1.heap.size := by omega
    have q1_0 := fun o => (bcell B1_1).1 (w.heap.size) o (by go_size)
    have f1_0 := fun o => (bcell B1_1).2 (w.heap.size) o (by go_size)
    have z1_1 : w.heap.size + 1 < w1.heap.size := by omega
    have q1_1 := fun o => (bcell B1_1).1 (w.heap.size + 1) o (by go_size)
    have f1_1 := fun o => (bcell B1_1).2 (w.heap.size + 1) o (by go_size)
    have z1_2 : w.heap.size + 1 + 1 < w1.heap.size := by omega
    have q1_2 := fun o => (bcell B1_1).1 (w.heap.size + 1 + 1) o (by go_size)
    have f1_2 := fun o => (bcell B1_1).2 (w.heap.size + 1 + 1) o (by go_size)
    have H1 : Below w.heap.size w w1 := bthen (by repeat' (first | (with_reducible exact Below.refl _ _) | (with_reducible assumption) | (with_reducible refine bdrawn ?_ _) | (with_reducible refine Below.alloc ?_ ?_ _) | (with_reducible refine Below.drew ?_) | (with_reducible refine Below.setCell ?_ ?_ _) | go_size)) h1 (by go_size)
    have C1 := (bcell H1).1; have F1 := (bcell H1).2
    go_wp2_with fail
    refine bodyPost_ret (by simp [results, Try.results107, go_sem, *]; try rfl) rfl ?_
    exact ⟨rfl, by go_grown⟩
  · obtain ⟨lc, hlc⟩ : ∃ lc, lineCnt g = lc := ⟨_, rfl⟩
    have hbd := lineCnt_bd g
    rw [hlc] at hbd
    have b0 := hbd.1; have b1 := hbd.2
    have hbt : btw n 0 (lc - 1) = false := by rw [mapOk, hmo, hlc] at hv; simpa using hv
    clear hbd hv
    go_enter Try.func107, Try.ntmps107
    go_wp2_with fail
    refine (spec_MappingOk mo mh true hmo _).mono ?_
    rintro e w1 ⟨rfl, h1⟩
    have s1 := h1.size
    try simp only [World.size_alloc, World.size_setCell, World.size_drew, World.heap_drewN] at s1
    have B1_1 := h1
    have z1_0 : w.heap.size < w1.heap.size := by omega
    have q1_0 := fun o => (bcell B1_1).1 (w.heap.size) o (by go_size)
    have f1_0 := fun o => (bcell B1_1).2 (w.heap.size) o (by go_size)
    have z1_1 : w.heap.size + 1 < w1.heap.size := by omega
    have q1_1 := fun o => (bcell B1_1).1 (w.heap.size + 1) o (by go_size)
    have f1_1 := fun o => (bcell B1_1).2 (w.heap.size + 1) o (by go_size)
    have z1_2 : w.heap.size + 1 + 1 < w1.heap.size := by omega
    have q1_2 := fun o => (bcell B1_1).1 (w.heap.size + 1 + 1) o (by go_size)
    have f1_2 := fun o => (bcell B1_1).2 (w.heap.size + 1 + 1) o (by go_size)
    have H1 : Below w.heap.size w w1 := bthen (by repeat' (first | (with_reducible exact Below.refl _ _) | (with_reducible assumption) | (with_reducible refine bdrawn ?_ _) | (with_reducible refine Below.alloc ?_ ?_ _) | (with_reducible refine Below.drew ?_) | (with_reducible refine Below.setCell ?_ ?_ _) | go_size)) h1 (by go_size)
    have C1 := (bcell H1).1; have F1 := (bcell H1).2
    go_wp2_with fail
    refine (spec_LineCount_is g lc hlc _).mono ?_
    rintro e w2 ⟨rfl, h2⟩
    have s2 := h2.size
    try simp only [World.size_alloc, World.size_setCell, World.size_drew, World.heap_drewN] at s2
    have B2_1 := bnext (by first | (with_reducible exact B1_1) | exact (bgrow B1_1 (by go_size) (by repeat' (first | (with_reducible exact Below.refl _ _) | (with_reducible assumption) | (with_reducible refine bdrawn ?_ _) | (with_reducible refine Below.alloc ?_ ?_ _) | (with_reducible refine Below.drew ?_) | (with_reducible refine Below.setCell ?_ ?_ _) | go_size)))) h2 (by go_size)
    have z2_0 : w.heap.size < w2.heap.size := by omega
    have q2_0 := fun o => (bcell B2_1).1 (w.heap.size) o (by go_size)
    have f2_0 := fun o => (bcell B2_1).2 (w.heap.size) o (by go_size)
    have z2_1 : w.heap.size + 1 < w2.heap.size := by omega
    have q2_1 := fun o => (bcell B2_1).1 (w.heap.size + 1) o (by go_size)
    have f2_1 := fun o => (bcell B2_1).2 (w.heap.size + 1) o (by go_size)
    have z2_2 : w.heap.size + 1 + 1 < w2.heap.size := by omega
    have q2_2 := fun o => (bcell B2_1).1 (w.heap.size + 1 + 1) o (by go_size)
    have f2_2 := fun o => (bcell B2_1).2 (w.heap.size + 1 + 1) o (by go_size)
    have H2 : Below w.heap.size w w2 := bthen (by repeat' (first | (with_reducible exact Below.refl _ _) | (with_reducible assumption) | (with_reducible refine bdrawn ?_ _) | (with_reducible refine Below.alloc ?_ ?_ _) | (with_reducible refine Below.drew ?_) | (with_reducible refine Below.setCell ?_ ?_ _) | go_size)) h2 (by go_size)
    have C2 := (bcell H2).1; have F2 := (bcell H2).2
    go_wp2_with (first | (go_at_call 78; refine (btw_eq 78 _ _ _ false _ hbt (spec_l01In _ _ _ _)).mono ?_; rintro e wq ⟨rfl, rfl⟩))
    refine bodyPost_ret (by simp [results, Try.results107, go_sem, *]; try rfl) rfl ?_
    exact ⟨rfl, by go_grown⟩
set_option maxRecDepth 100000 in
set_option maxHeartbeats 4000000 in
theorem spec_MapLine_0f (g : Ge) (n b r c : Int) (w : World) (hv : mapOk g 0 n = true) (he : mapL g 0 false n = ⟨b, r, c⟩) :
    Calls Try.prog 107 #[.agg #[.int .i64 g.gr, .int .i64 g.bk, .int .i64 g.rw, .int .i64 g.cl], .agg #[.int .i64 0, .bool false], .int .i64 n] w fun e w' => e = .returned (.tuple #[.agg #[.int .i64 b, .int .i64 r, .int .i64 c], .bool true]) ∧ Below w.heap.size w w' := by
  obtain ⟨hg, _, n0, n1, hbt, hmo⟩ := mapOk_bd hv
  obtain ⟨lc, hlc⟩ : ∃ lc, lineCnt g = lc := ⟨_, rfl⟩
  obtain ⟨bc, hbc⟩ : ∃ bc, bankCnt g = bc := ⟨_, rfl⟩
  have hbd := lineCnt_bd g; have hkb := bank_bd hg
  have hgd := geoOk_bd hg
  rw [show g.gr * g.bk = bc by rw [← hbc]; unfold bankCnt; rw [if_pos hg]] at hkb
  have k1 := hkb.1; have k2 := hkb.2
  have g5 := hgd.2.2.2.2.1; have g6 := hgd.2.2.2.2.2.1; have g7 := hgd.2.2.2.2.2.2.1; have g8 := hgd.2.2.2.2.2.2.2
  have had := mapL_ok false hv
  rw [he] at had
  have had := adOk_num had
  rw [hlc] at hbd hbt
  have b0 := hbd.1; have b1 := hbd.2
  have n2 : n ≤ lc - 1 := (btw_true.1 hbt).2
  have d1 := had.1; have d2 := had.2.1; have d3 := had.2.2.1; have d4 := had.2.2.2
  simp only [mapL, hbc, Bool.false_eq_true, if_false, Ad.mk.injEq, if_true] at he
  obtain ⟨X, hX⟩ : ∃ X, n / g.cl = X := ⟨_, rfl⟩
  rw [hX] at he
  have q1 : 0 ≤ X := hX ▸ Int.ediv_nonneg n0 (by omega)
  have q2 : X ≤ n := hX ▸ Int.ediv_le_self _ n0
  have y1 : n.tdiv g.cl = X := by rw [Int.tdiv_eq_ediv_of_nonneg n0]; exact hX
  have y2 : X.tdiv bc = r := by rw [Int.tdiv_eq_ediv_of_nonneg q1]; exact he.2.1
  have y3 : X.tmod bc = b := by rw [Int.tmod_eq_emod_of_nonneg q1]; exact he.1
  have y4 : n.tmod g.cl = c := by rw [Int.tmod_eq_emod_of_nonneg n0]; exact he.2.2
  have z1 : (g.cl == 0) = false := by simp; omega
  have z2 : (bc == 0) = false := by simp; omega
  have z3 : ¬ g.cl = 0 := by omega
  have z4 : ¬ bc = 0 := by omega
  have u1 : IntKind.i64.wrap X = X := IntWalk.i64_in _ (by omega)
  have u2 : IntKind.i64.wrap r = r := IntWalk.i64_in _ (by omega)
  have Y := hide (And.intro y1 (And.intro y2 (And.intro y3 y4)))
  skip
  clear y1 y2 y3 y4 hbd hgd hkb he hX had hv n1
  go_enter Try.func107, Try.ntmps107
  go_wp2_with fail
  refine (spec_MappingOk 0 false true hmo _).mono ?_
  rintro e w1 ⟨rfl, h1⟩
  have s1 := h1.size
  try simp only [World.size_alloc, World.size_setCell, World.size_drew, World.heap_drewN] at s1
  have B1_1 := h1
  have z1_0 : w.heap.size < w1.heap.size := by omega
  have q1_0 := fun o => (bcell B1_1).1 (w.heap.size) o (by go_size)
  have f1_0 := fun o => (bcell B1_1).2 (w.heap.size) o (by go_size)
  have z1_1 : w.heap.size + 1 < w1.heap.size := by omega
  have q1_1 := fun o => (bcell B1_1).1 (w.heap.size + 1) o (by go_size)
  have f1_1 := fun o => (bcell B1_1).2 (w.heap.size + 1) o (by go_size)
  have z1_2 : w.heap.size + 1 + 1 < w1.heap.size := by omega
  have q1_2 := fun o => (bcell B1_1).1 (w.heap.size + 1 + 1) o (by go_size)
  have f1_2 := fun o => (bcell B1_1).2 (w.heap.size + 1 + 1) o (by go_size)
  have H1 : Below w.heap.size w w1 := bthen (by repeat' (first | (with_reducible exact Below.refl _ _) | (with_reducible assumption) | (with_reducible refine bdrawn ?_ _) | (with_reducible refine Below.alloc ?_ ?_ _) | (with_reducible refine Below.drew ?_) | (with_reducible refine Below.setCell ?_ ?_ _) | go_size)) h1 (by go_size)
  have C1 := (bcell H1).1; have F1 := (bcell H1).2
  go_wp2_with fail
  refine (spec_LineCount_is g lc hlc _).mono ?_
  rintro e w2 ⟨rfl, h2⟩
  have s2 := h2.size
  try simp only [World.size_alloc, World.size_setCell, World.size_drew, World.heap_drewN] at s2
  have B2_1 := bnext (by first | (with_reducible exact B1_1) | exact (bgrow B1_1 (by go_size) (by repeat' (first | (with_reducible exact Below.refl _ _) | (with_reducible assumption) | (with_reducible refine bdrawn ?_ _) | (with_reducible refine Below.alloc ?_ ?_ _) | (with_reducible refine Below.drew ?_) | (with_reducible refine Below.setCell ?_ ?_ _) | go_size)))) h2 (by go_size)
  have z2_0 : w.heap.size < w2.heap.size := by omega
  have q2_0 := fun o => (bcell B2_1).1 (w.heap.size) o (by go_size)
  have f2_0 := fun o => (bcell B2_1).2 (w.heap.size) o (by go_size)
  have z2_1 : w.heap.size + 1 < w2.heap.size := by omega
  have q2_1 := fun o => (bcell B2_1).1 (w.heap.size + 1) o (by go_size)
  have f2_1 := fun o => (bcell B2_1).2 (w.heap.size + 1) o (by go_size)
  have z2_2 : w.heap.size + 1 + 1 < w2.heap.size := by omega
  have q2_2 := fun o => (bcell B2_1).1 (w.heap.size + 1 + 1) o (by go_size)
  have f2_2 := fun o => (bcell B2_1).2 (w.heap.size + 1 + 1) o (by go_size)
  have H2 : Below w.heap.size w w2 := bthen (by repeat' (first | (with_reducible exact Below.refl _ _) | (with_reducible assumption) | (with_reducible refine bdrawn ?_ _) | (with_reducible refine Below.alloc ?_ ?_ _) | (with_reducible refine Below.drew ?_) | (with_reducible refine Below.setCell ?_ ?_ _) | go_size)) h2 (by go_size)
  have C2 := (bcell H2).1; have F2 := (bcell H2).2
  go_wp2_with (first | (go_at_call 78; refine (btw_eq 78 _ _ _ true _ hbt (spec_l01In _ _ _ _)).mono ?_; rintro e wq ⟨rfl, rfl⟩))
  refine (spec_BankCount_is g bc hbc _).mono ?_
  rintro e w3 ⟨rfl, h3⟩
  have s3 := h3.size
  try simp only [World.size_alloc, World.size_setCell, World.size_drew, World.heap_drewN] at s3
  have B3_1 := bnext (by first | (with_reducible exact B2_1) | exact (bgrow B2_1 (by go_size) (by repeat' (first | (with_reducible exact Below.refl _ _) | (with_reducible assumption) | (with_reducible refine bdrawn ?_ _) | (with_reducible refine Below.alloc ?_ ?_ _) | (with_reducible refine Below.drew ?_) | (with_reducible refine Below.setCell ?_ ?_ _) | go_size)))) h3 (by go_size)
  have z3_0 : w.heap.size < w3.heap.size := by omega
  have q3_0 := fun o => (bcell B3_1).1 (w.heap.size) o (by go_size)
  have f3_0 := fun o => (bcell B3_1).2 (w.heap.size) o (by go_size)
  have z3_1 : w.heap.size + 1 < w3.heap.size := by omega
  have q3_1 := fun o => (bcell B3_1).1 (w.heap.size + 1) o (by go_size)
  have f3_1 := fun o => (bcell B3_1).2 (w.heap.size + 1) o (by go_size)
  have z3_2 : w.heap.size + 1 + 1 < w3.heap.size := by omega
  have q3_2 := fun o => (bcell B3_1).1 (w.heap.size + 1 + 1) o (by go_size)
  have f3_2 := fun o => (bcell B3_1).2 (w.heap.size + 1 + 1) o (by go_size)
  have H3 : Below w.heap.size w w3 := bthen (by repeat' (first | (with_reducible exact Below.refl _ _) | (with_reducible assumption) | (with_reducible refine bdrawn ?_ _) | (with_reducible refine Below.alloc ?_ ?_ _) | (with_reducible refine Below.drew ?_) | (with_reducible refine Below.setCell ?_ ?_ _) | go_size)) h3 (by go_size)
  have C3 := (bcell H3).1; have F3 := (bcell H3).2
  go_wp2_with fail
  obtain ⟨y1, y2, y3, y4⟩ := Y.out
  have hA : Below w3.heap.size w3 (w3.alloc (.cells #[.int .i64 0, .int .i64 0, .int .i64 0] 138)) := Below.alloc (Below.refl _ _) (Nat.le_refl _) _
  have e2 : (w3.alloc (.cells #[.int .i64 0, .int .i64 0, .int .i64 0] 138)).cell? ⟨w.heap.size, 2, none⟩ = some (.int .i64 g.rw) := ((bcell hA).1 _ _ (by omega)).trans ((q3_0 2).trans (by simp [go_sem]))
  have e3 : (w3.alloc (.cells #[.int .i64 0, .int .i64 0, .int .i64 0] 138)).cell? ⟨w.heap.size, 3, none⟩ = some (.int .i64 g.cl) := ((bcell hA).1 _ _ (by omega)).trans ((q3_0 3).trans (by simp [go_sem]))
  have eh : (w3.alloc (.cells #[.int .i64 0, .int .i64 0, .int .i64 0] 138)).cell? ⟨w.heap.size + 1, 1, none⟩ = some (.bool false) := ((bcell hA).1 _ _ (by omega)).trans ((q3_1 1).trans (by simp [go_sem]))
  have er0 : (w3.alloc (.cells #[.int .i64 0, .int .i64 0, .int .i64 0] 138)).cell? ⟨w.heap.size + 1 + 1, 0, none⟩ = some (.int .i64 0) := ((bcell hA).1 _ _ (by omega)).trans ((q3_2 0).trans (by simp [go_sem]))
  have fr0 : (w3.alloc (.cells #[.int .i64 0, .int .i64 0, .int .i64 0] 138)).frozen? ⟨w.heap.size + 1 + 1, 0, none⟩ = false := ((bcell hA).2 _ _ (by omega)).trans ((f3_2 0).trans (by simp [go_sem]))
  have er1 : (w3.alloc (.cells #[.int .i64 0, .int .i64 0, .int .i64 0] 138)).cell? ⟨w.heap.size + 1 + 1, 1, none⟩ = some (.int .i64 0) := ((bcell hA).1 _ _ (by omega)).trans ((q3_2 1).trans (by simp [go_sem]))
  have fr1 : (w3.alloc (.cells #[.int .i64 0, .int .i64 0, .int .i64 0] 138)).frozen? ⟨w.heap.size + 1 + 1, 1, none⟩ = false := ((bcell hA).2 _ _ (by omega)).trans ((f3_2 1).trans (by simp [go_sem]))
  have er2 : (w3.alloc (.cells #[.int .i64 0, .int .i64 0, .int .i64 0] 138)).cell? ⟨w.heap.size + 1 + 1, 2, none⟩ = some (.int .i64 0) := ((bcell hA).1 _ _ (by omega)).trans ((q3_2 2).trans (by simp [go_sem]))
  have fr2 : (w3.alloc (.cells #[.int .i64 0, .int .i64 0, .int .i64 0] 138)).frozen? ⟨w.heap.size + 1 + 1, 2, none⟩ = false := ((bcell hA).2 _ _ (by omega)).trans ((f3_2 2).trans (by simp [go_sem]))
  have kn := alloc_at w3 (.cells #[.int .i64 0, .int .i64 0, .int .i64 0] 138) _ rfl
  have hB := bthen H3 hA (by omega)
  have hps : ¬ w3.heap.size = w.heap.size + 1 + 1 := by omega
  have hpt : w.heap.size + 3 ≤ w3.heap.size := by omega
  have hpu : w3.heap.size < (w3.alloc (.cells #[.int .i64 0, .int .i64 0, .int .i64 0] 138)).heap.size := by simp
  generalize (w3.alloc (.cells #[.int .i64 0, .int .i64 0, .int .i64 0] 138)) = W at *
  generalize w3.heap.size = p at *
  have n0 := cell_blk kn 0; have n1 := cell_blk kn 1; have n2 := cell_blk kn 2; have nf := fun o => free_blk kn o
  clear hA kn
  go_still_tail 17, (by kernel_rfl)
  go_wp2
  refine bodyPost_ret (by simp [results, Try.results107, go_sem, *]; try rfl) rfl ?_
  exact ⟨rfl, by go_grown⟩
set_option maxRecDepth 100000 in
set_option maxHeartbeats 4000000 in
theorem spec_MapLine_0t (g : Ge) (n b r c h : Int) (w : World) (hv : mapOk g 0 n = true) (he : mapL g 0 false n = ⟨b, r, c⟩) (hh : (b + r) % bankCnt g = h) :
    Calls Try.prog 107 #[.agg #[.int .i64 g.gr, .int .i64 g.bk, .int .i64 g.rw, .int .i64 g.cl], .agg #[.int .i64 0, .bool true], .int .i64 n] w fun e w' => e = .returned (.tuple #[.agg #[.int .i64 h, .int .i64 r, .int .i64 c], .bool true]) ∧ Below w.heap.size w w' := by
  obtain ⟨hg, _, n0, n1, hbt, hmo⟩ := mapOk_bd hv
  obtain ⟨lc, hlc⟩ : ∃ lc, lineCnt g = lc := ⟨_, rfl⟩
  obtain ⟨bc, hbc⟩ : ∃ bc, bankCnt g = bc := ⟨_, rfl⟩
  have hbd := lineCnt_bd g; have hkb := bank_bd hg
  have hgd := geoOk_bd hg
  rw [show g.gr * g.bk = bc by rw [← hbc]; unfold bankCnt; rw [if_pos hg]] at hkb
  have k1 := hkb.1; have k2 := hkb.2
  have g5 := hgd.2.2.2.2.1; have g6 := hgd.2.2.2.2.2.1; have g7 := hgd.2.2.2.2.2.2.1; have g8 := hgd.2.2.2.2.2.2.2
  have had := mapL_ok false hv
  rw [he] at had
  have had := adOk_num had
  rw [hlc] at hbd hbt
  have b0 := hbd.1; have b1 := hbd.2
  have n2 : n ≤ lc - 1 := (btw_true.1 hbt).2
  have d1 := had.1; have d2 := had.2.1; have d3 := had.2.2.1; have d4 := had.2.2.2
  simp only [mapL, hbc, Bool.false_eq_true, if_false, Ad.mk.injEq, if_true] at he
  obtain ⟨X, hX⟩ : ∃ X, n / g.cl = X := ⟨_, rfl⟩
  rw [hX] at he
  have q1 : 0 ≤ X := hX ▸ Int.ediv_nonneg n0 (by omega)
  have q2 : X ≤ n := hX ▸ Int.ediv_le_self _ n0
  have y1 : n.tdiv g.cl = X := by rw [Int.tdiv_eq_ediv_of_nonneg n0]; exact hX
  have y2 : X.tdiv bc = r := by rw [Int.tdiv_eq_ediv_of_nonneg q1]; exact he.2.1
  have y3 : X.tmod bc = b := by rw [Int.tmod_eq_emod_of_nonneg q1]; exact he.1
  have y4 : n.tmod g.cl = c := by rw [Int.tmod_eq_emod_of_nonneg n0]; exact he.2.2
  have y5 : (b + r).tmod bc = h := by rw [Int.tmod_eq_emod_of_nonneg (by omega), ← hbc]; exact hh
  have y6 : IntKind.i64.wrap (b + r) = b + r := IntWalk.i64_in _ (by omega)
  have z1 : (g.cl == 0) = false := by simp; omega
  have z2 : (bc == 0) = false := by simp; omega
  have z3 : ¬ g.cl = 0 := by omega
  have z4 : ¬ bc = 0 := by omega
  have u1 : IntKind.i64.wrap X = X := IntWalk.i64_in _ (by omega)
  have u2 : IntKind.i64.wrap r = r := IntWalk.i64_in _ (by omega)
  have Y := hide (And.intro y1 (And.intro y2 (And.intro y3 y4)))
  have Y5 := hide (And.intro y5 y6)
  clear y1 y2 y3 y4 hbd hgd hkb he hX had hv n1 y5 y6 hh
  go_enter Try.func107, Try.ntmps107
  go_wp2_with fail
  refine (spec_MappingOk 0 true true hmo _).mono ?_
  rintro e w1 ⟨rfl, h1⟩
  have s1 := h1.size
  try simp only [World.size_alloc, World.size_setCell, World.size_drew, World.heap_drewN] at s1
  have B1_1 := h1
  have z1_0 : w.heap.size < w1.heap.size := by omega
  have q1_0 := fun o => (bcell B1_1).1 (w.heap.size) o (by go_size)
  have f1_0 := fun o => (bcell B1_1).2 (w.heap.size) o (by go_size)
  have z1_1 : w.heap.size + 1 < w1.heap.size := by omega
  have q1_1 := fun o => (bcell B1_1).1 (w.heap.size + 1) o (by go_size)
  have f1_1 := fun o => (bcell B1_1).2 (w.heap.size + 1) o (by go_size)
  have z1_2 : w.heap.size + 1 + 1 < w1.heap.size := by omega
  have q1_2 := fun o => (bcell B1_1).1 (w.heap.size + 1 + 1) o (by go_size)
  have f1_2 := fun o => (bcell B1_1).2 (w.heap.size + 1 + 1) o (by go_size)
  have H1 : Below w.heap.size w w1 := bthen (by repeat' (first | (with_reducible exact Below.refl _ _) | (with_reducible assumption) | (with_reducible refine bdrawn ?_ _) | (with_reducible refine Below.alloc ?_ ?_ _) | (with_reducible refine Below.drew ?_) | (with_reducible refine Below.setCell ?_ ?_ _) | go_size)) h1 (by go_size)
  have C1 := (bcell H1).1; have F1 := (bcell H1).2
  go_wp2_with fail
  refine (spec_LineCount_is g lc hlc _).mono ?_
  rintro e w2 ⟨rfl, h2⟩
  have s2 := h2.size
  try simp only [World.size_alloc, World.size_setCell, World.size_drew, World.heap_drewN] at s2
  have B2_1 := bnext (by first | (with_reducible exact B1_1) | exact (bgrow B1_1 (by go_size) (by repeat' (first | (with_reducible exact Below.refl _ _) | (with_reducible assumption) | (with_reducible refine bdrawn ?_ _) | (with_reducible refine Below.alloc ?_ ?_ _) | (with_reducible refine Below.drew ?_) | (with_reducible refine Below.setCell ?_ ?_ _) | go_size)))) h2 (by go_size)
  have z2_0 : w.heap.size < w2.heap.size := by omega
  have q2_0 := fun o => (bcell B2_1).1 (w.heap.size) o (by go_size)
  have f2_0 := fun o => (bcell B2_1).2 (w.heap.size) o (by go_size)
  have z2_1 : w.heap.size + 1 < w2.heap.size := by omega
  have q2_1 := fun o => (bcell B2_1).1 (w.heap.size + 1) o (by go_size)
  have f2_1 := fun o => (bcell B2_1).2 (w.heap.size + 1) o (by go_size)
  have z2_2 : w.heap.size + 1 + 1 < w2.heap.size := by omega
  have q2_2 := fun o => (bcell B2_1).1 (w.heap.size + 1 + 1) o (by go_size)
  have f2_2 := fun o => (bcell B2_1).2 (w.heap.size + 1 + 1) o (by go_size)
  have H2 : Below w.heap.size w w2 := bthen (by repeat' (first | (with_reducible exact Below.refl _ _) | (with_reducible assumption) | (with_reducible refine bdrawn ?_ _) | (with_reducible refine Below.alloc ?_ ?_ _) | (with_reducible refine Below.drew ?_) | (with_reducible refine Below.setCell ?_ ?_ _) | go_size)) h2 (by go_size)
  have C2 := (bcell H2).1; have F2 := (bcell H2).2
  go_wp2_with (first | (go_at_call 78; refine (btw_eq 78 _ _ _ true _ hbt (spec_l01In _ _ _ _)).mono ?_; rintro e wq ⟨rfl, rfl⟩))
  refine (spec_BankCount_is g bc hbc _).mono ?_
  rintro e w3 ⟨rfl, h3⟩
  have s3 := h3.size
  try simp only [World.size_alloc, World.size_setCell, World.size_drew, World.heap_drewN] at s3
  have B3_1 := bnext (by first | (with_reducible exact B2_1) | exact (bgrow B2_1 (by go_size) (by repeat' (first | (with_reducible exact Below.refl _ _) | (with_reducible assumption) | (with_reducible refine bdrawn ?_ _) | (with_reducible refine Below.alloc ?_ ?_ _) | (with_reducible refine Below.drew ?_) | (with_reducible refine Below.setCell ?_ ?_ _) | go_size)))) h3 (by go_size)
  have z3_0 : w.heap.size < w3.heap.size := by omega
  have q3_0 := fun o => (bcell B3_1).1 (w.heap.size) o (by go_size)
  have f3_0 := fun o => (bcell B3_1).2 (w.heap.size) o (by go_size)
  have z3_1 : w.heap.size + 1 < w3.heap.size := by omega
  have q3_1 := fun o => (bcell B3_1).1 (w.heap.size + 1) o (by go_size)
  have f3_1 := fun o => (bcell B3_1).2 (w.heap.size + 1) o (by go_size)
  have z3_2 : w.heap.size + 1 + 1 < w3.heap.size := by omega
  have q3_2 := fun o => (bcell B3_1).1 (w.heap.size + 1 + 1) o (by go_size)
  have f3_2 := fun o => (bcell B3_1).2 (w.heap.size + 1 + 1) o (by go_size)
  have H3 : Below w.heap.size w w3 := bthen (by repeat' (first | (with_reducible exact Below.refl _ _) | (with_reducible assumption) | (with_reducible refine bdrawn ?_ _) | (with_reducible refine Below.alloc ?_ ?_ _) | (with_reducible refine Below.drew ?_) | (with_reducible refine Below.setCell ?_ ?_ _) | go_size)) h3 (by go_size)
  have C3 := (bcell H3).1; have F3 := (bcell H3).2
  go_wp2_with fail
  obtain ⟨y1, y2, y3, y4⟩ := Y.out
  obtain ⟨y5, y6⟩ := Y5.out
  have hA : Below w3.heap.size w3 (w3.alloc (.cells #[.int .i64 0, .int .i64 0, .int .i64 0] 138)) := Below.alloc (Below.refl _ _) (Nat.le_refl _) _
  have e2 : (w3.alloc (.cells #[.int .i64 0, .int .i64 0, .int .i64 0] 138)).cell? ⟨w.heap.size, 2, none⟩ = some (.int .i64 g.rw) := ((bcell hA).1 _ _ (by omega)).trans ((q3_0 2).trans (by simp [go_sem]))
  have e3 : (w3.alloc (.cells #[.int .i64 0, .int .i64 0, .int .i64 0] 138)).cell? ⟨w.heap.size, 3, none⟩ = some (.int .i64 g.cl) := ((bcell hA).1 _ _ (by omega)).trans ((q3_0 3).trans (by simp [go_sem]))
  have eh : (w3.alloc (.cells #[.int .i64 0, .int .i64 0, .int .i64 0] 138)).cell? ⟨w.heap.size + 1, 1, none⟩ = some (.bool true) := ((bcell hA).1 _ _ (by omega)).trans ((q3_1 1).trans (by simp [go_sem]))
  have er0 : (w3.alloc (.cells #[.int .i64 0, .int .i64 0, .int .i64 0] 138)).cell? ⟨w.heap.size + 1 + 1, 0, none⟩ = some (.int .i64 0) := ((bcell hA).1 _ _ (by omega)).trans ((q3_2 0).trans (by simp [go_sem]))
  have fr0 : (w3.alloc (.cells #[.int .i64 0, .int .i64 0, .int .i64 0] 138)).frozen? ⟨w.heap.size + 1 + 1, 0, none⟩ = false := ((bcell hA).2 _ _ (by omega)).trans ((f3_2 0).trans (by simp [go_sem]))
  have er1 : (w3.alloc (.cells #[.int .i64 0, .int .i64 0, .int .i64 0] 138)).cell? ⟨w.heap.size + 1 + 1, 1, none⟩ = some (.int .i64 0) := ((bcell hA).1 _ _ (by omega)).trans ((q3_2 1).trans (by simp [go_sem]))
  have fr1 : (w3.alloc (.cells #[.int .i64 0, .int .i64 0, .int .i64 0] 138)).frozen? ⟨w.heap.size + 1 + 1, 1, none⟩ = false := ((bcell hA).2 _ _ (by omega)).trans ((f3_2 1).trans (by simp [go_sem]))
  have er2 : (w3.alloc (.cells #[.int .i64 0, .int .i64 0, .int .i64 0] 138)).cell? ⟨w.heap.size + 1 + 1, 2, none⟩ = some (.int .i64 0) := ((bcell hA).1 _ _ (by omega)).trans ((q3_2 2).trans (by simp [go_sem]))
  have fr2 : (w3.alloc (.cells #[.int .i64 0, .int .i64 0, .int .i64 0] 138)).frozen? ⟨w.heap.size + 1 + 1, 2, none⟩ = false := ((bcell hA).2 _ _ (by omega)).trans ((f3_2 2).trans (by simp [go_sem]))
  have kn := alloc_at w3 (.cells #[.int .i64 0, .int .i64 0, .int .i64 0] 138) _ rfl
  have hB := bthen H3 hA (by omega)
  have hps : ¬ w3.heap.size = w.heap.size + 1 + 1 := by omega
  have hpt : w.heap.size + 3 ≤ w3.heap.size := by omega
  have hpu : w3.heap.size < (w3.alloc (.cells #[.int .i64 0, .int .i64 0, .int .i64 0] 138)).heap.size := by simp
  generalize (w3.alloc (.cells #[.int .i64 0, .int .i64 0, .int .i64 0] 138)) = W at *
  generalize w3.heap.size = p at *
  have n0 := cell_blk kn 0; have n1 := cell_blk kn 1; have n2 := cell_blk kn 2; have nf := fun o => free_blk kn o
  clear hA kn
  go_still_tail 17, (by kernel_rfl)
  go_wp2
  refine bodyPost_ret (by simp [results, Try.results107, go_sem, *]; try rfl) rfl ?_
  exact ⟨rfl, by go_grown⟩
set_option maxRecDepth 100000 in
set_option maxHeartbeats 4000000 in
theorem spec_MapLine_1f (g : Ge) (n b r c : Int) (w : World) (hv : mapOk g 1 n = true) (he : mapL g 1 false n = ⟨b, r, c⟩) :
    Calls Try.prog 107 #[.agg #[.int .i64 g.gr, .int .i64 g.bk, .int .i64 g.rw, .int .i64 g.cl], .agg #[.int .i64 1, .bool false], .int .i64 n] w fun e w' => e = .returned (.tuple #[.agg #[.int .i64 b, .int .i64 r, .int .i64 c], .bool true]) ∧ Below w.heap.size w w' := by
  obtain ⟨hg, _, n0, n1, hbt, hmo⟩ := mapOk_bd hv
  obtain ⟨lc, hlc⟩ : ∃ lc, lineCnt g = lc := ⟨_, rfl⟩
  obtain ⟨bc, hbc⟩ : ∃ bc, bankCnt g = bc := ⟨_, rfl⟩
  have hbd := lineCnt_bd g; have hkb := bank_bd hg
  have hgd := geoOk_bd hg
  rw [show g.gr * g.bk = bc by rw [← hbc]; unfold bankCnt; rw [if_pos hg]] at hkb
  have k1 := hkb.1; have k2 := hkb.2
  have g5 := hgd.2.2.2.2.1; have g6 := hgd.2.2.2.2.2.1; have g7 := hgd.2.2.2.2.2.2.1; have g8 := hgd.2.2.2.2.2.2.2
  have had := mapL_ok false hv
  rw [he] at had
  have had := adOk_num had
  rw [hlc] at hbd hbt
  have b0 := hbd.1; have b1 := hbd.2
  have n2 : n ≤ lc - 1 := (btw_true.1 hbt).2
  have d1 := had.1; have d2 := had.2.1; have d3 := had.2.2.1; have d4 := had.2.2.2
  simp only [mapL, hbc, Bool.false_eq_true, if_false, Ad.mk.injEq, if_true, show ¬ (1 : Int) = 0 by omega, show ¬ (2 : Int) = 0 by omega, show ¬ (2 : Int) = 1 by omega] at he
  obtain ⟨X, hX⟩ : ∃ X, n / bc = X := ⟨_, rfl⟩
  rw [hX] at he
  have q1 : 0 ≤ X := hX ▸ Int.ediv_nonneg n0 (by omega)
  have q2 : X ≤ n := hX ▸ Int.ediv_le_self _ n0
  have y1 : n.tdiv bc = X := by rw [Int.tdiv_eq_ediv_of_nonneg n0]; exact hX
  have y2 : X.tdiv g.cl = r := by rw [Int.tdiv_eq_ediv_of_nonneg q1]; exact he.2.1
  have y3 : X.tmod g.cl = c := by rw [Int.tmod_eq_emod_of_nonneg q1]; exact he.2.2
  have y4 : n.tmod bc = b := by rw [Int.tmod_eq_emod_of_nonneg n0]; exact he.1
  have z1 : (bc == 0) = false := by simp; omega
  have z2 : (g.cl == 0) = false := by simp; omega
  have z3 : ¬ bc = 0 := by omega
  have z4 : ¬ g.cl = 0 := by omega
  have u1 : IntKind.i64.wrap X = X := IntWalk.i64_in _ (by omega)
  have u2 : IntKind.i64.wrap r = r := IntWalk.i64_in _ (by omega)
  have Y := hide (And.intro y1 (And.intro y2 (And.intro y3 y4)))
  skip
  clear y1 y2 y3 y4 hbd hgd hkb he hX had hv n1
  go_enter Try.func107, Try.ntmps107
  go_wp2_with fail
  refine (spec_MappingOk 1 false true hmo _).mono ?_
  rintro e w1 ⟨rfl, h1⟩
  have s1 := h1.size
  try simp only [World.size_alloc, World.size_setCell, World.size_drew, World.heap_drewN] at s1
  have B1_1 := h1
  have z1_0 : w.heap.size < w1.heap.size := by omega
  have q1_0 := fun o => (bcell B1_1).1 (w.heap.size) o (by go_size)
  have f1_0 := fun o => (bcell B1_1).2 (w.heap.size) o (by go_size)
  have z1_1 : w.heap.size + 1 < w1.heap.size := by omega
  have q1_1 := fun o => (bcell B1_1).1 (w.heap.size + 1) o (by go_size)
  have f1_1 := fun o => (bcell B1_1).2 (w.heap.size + 1) o (by go_size)
  have z1_2 : w.heap.size + 1 + 1 < w1.heap.size := by omega
  have q1_2 := fun o => (bcell B1_1).1 (w.heap.size + 1 + 1) o (by go_size)
  have f1_2 := fun o => (bcell B1_1).2 (w.heap.size + 1 + 1) o (by go_size)
  have H1 : Below w.heap.size w w1 := bthen (by repeat' (first | (with_reducible exact Below.refl _ _) | (with_reducible assumption) | (with_reducible refine bdrawn ?_ _) | (with_reducible refine Below.alloc ?_ ?_ _) | (with_reducible refine Below.drew ?_) | (with_reducible refine Below.setCell ?_ ?_ _) | go_size)) h1 (by go_size)
  have C1 := (bcell H1).1; have F1 := (bcell H1).2
  go_wp2_with fail
  refine (spec_LineCount_is g lc hlc _).mono ?_
  rintro e w2 ⟨rfl, h2⟩
  have s2 := h2.size
  try simp only [World.size_alloc, World.size_setCell, World.size_drew, World.heap_drewN] at s2
  have B2_1 := bnext (by first | (with_reducible exact B1_1) | exact (bgrow B1_1 (by go_size) (by repeat' (first | (with_reducible exact Below.refl _ _) | (with_reducible assumption) | (with_reducible refine bdrawn ?_ _) | (with_reducible refine Below.alloc ?_ ?_ _) | (with_reducible refine Below.drew ?_) | (with_reducible refine Below.setCell ?_ ?_ _) | go_size)))) h2 (by go_size)
  have z2_0 : w.heap.size < w2.heap.size := by omega
  have q2_0 := fun o => (bcell B2_1).1 (w.heap.size) o (by go_size)
  have f2_0 := fun o => (bcell B2_1).2 (w.heap.size) o (by go_size)
  have z2_1 : w.heap.size + 1 < w2.heap.size := by omega
  have q2_1 := fun o => (bcell B2_1).1 (w.heap.size + 1) o (by go_size)
  have f2_1 := fun o => (bcell B2_1).2 (w.heap.size + 1) o (by go_size)
  have z2_2 : w.heap.size + 1 + 1 < w2.heap.size := by omega
  have q2_2 := fun o => (bcell B2_1).1 (w.heap.size + 1 + 1) o (by go_size)
  have f2_2 := fun o => (bcell B2_1).2 (w.heap.size + 1 + 1) o (by go_size)
  have H2 : Below w.heap.size w w2 := bthen (by repeat' (first | (with_reducible exact Below.refl _ _) | (with_reducible assumption) | (with_reducible refine bdrawn ?_ _) | (with_reducible refine Below.alloc ?_ ?_ _) | (with_reducible refine Below.drew ?_) | (with_reducible refine Below.setCell ?_ ?_ _) | go_size)) h2 (by go_size)
  have C2 := (bcell H2).1; have F2 := (bcell H2).2
  go_wp2_with (first | (go_at_call 78; refine (btw_eq 78 _ _ _ true _ hbt (spec_l01In _ _ _ _)).mono ?_; rintro e wq ⟨rfl, rfl⟩))
  refine (spec_BankCount_is g bc hbc _).mono ?_
  rintro e w3 ⟨rfl, h3⟩
  have s3 := h3.size
  try simp only [World.size_alloc, World.size_setCell, World.size_drew, World.heap_drewN] at s3
  have B3_1 := bnext (by first | (with_reducible exact B2_1) | exact (bgrow B2_1 (by go_size) (by repeat' (first | (with_reducible exact Below.refl _ _) | (with_reducible assumption) | (with_reducible refine bdrawn ?_ _) | (with_reducible refine Below.alloc ?_ ?_ _) | (with_reducible refine Below.drew ?_) | (with_reducible refine Below.setCell ?_ ?_ _) | go_size)))) h3 (by go_size)
  have z3_0 : w.heap.size < w3.heap.size := by omega
  have q3_0 := fun o => (bcell B3_1).1 (w.heap.size) o (by go_size)
  have f3_0 := fun o => (bcell B3_1).2 (w.heap.size) o (by go_size)
  have z3_1 : w.heap.size + 1 < w3.heap.size := by omega
  have q3_1 := fun o => (bcell B3_1).1 (w.heap.size + 1) o (by go_size)
  have f3_1 := fun o => (bcell B3_1).2 (w.heap.size + 1) o (by go_size)
  have z3_2 : w.heap.size + 1 + 1 < w3.heap.size := by omega
  have q3_2 := fun o => (bcell B3_1).1 (w.heap.size + 1 + 1) o (by go_size)
  have f3_2 := fun o => (bcell B3_1).2 (w.heap.size + 1 + 1) o (by go_size)
  have H3 : Below w.heap.size w w3 := bthen (by repeat' (first | (with_reducible exact Below.refl _ _) | (with_reducible assumption) | (with_reducible refine bdrawn ?_ _) | (with_reducible refine Below.alloc ?_ ?_ _) | (with_reducible refine Below.drew ?_) | (with_reducible refine Below.setCell ?_ ?_ _) | go_size)) h3 (by go_size)
  have C3 := (bcell H3).1; have F3 := (bcell H3).2
  go_wp2_with fail
  obtain ⟨y1, y2, y3, y4⟩ := Y.out
  have hA : Below w3.heap.size w3 (w3.alloc (.cells #[.int .i64 0, .int .i64 0, .int .i64 0] 138)) := Below.alloc (Below.refl _ _) (Nat.le_refl _) _
  have e2 : (w3.alloc (.cells #[.int .i64 0, .int .i64 0, .int .i64 0] 138)).cell? ⟨w.heap.size, 2, none⟩ = some (.int .i64 g.rw) := ((bcell hA).1 _ _ (by omega)).trans ((q3_0 2).trans (by simp [go_sem]))
  have e3 : (w3.alloc (.cells #[.int .i64 0, .int .i64 0, .int .i64 0] 138)).cell? ⟨w.heap.size, 3, none⟩ = some (.int .i64 g.cl) := ((bcell hA).1 _ _ (by omega)).trans ((q3_0 3).trans (by simp [go_sem]))
  have eh : (w3.alloc (.cells #[.int .i64 0, .int .i64 0, .int .i64 0] 138)).cell? ⟨w.heap.size + 1, 1, none⟩ = some (.bool false) := ((bcell hA).1 _ _ (by omega)).trans ((q3_1 1).trans (by simp [go_sem]))
  have er0 : (w3.alloc (.cells #[.int .i64 0, .int .i64 0, .int .i64 0] 138)).cell? ⟨w.heap.size + 1 + 1, 0, none⟩ = some (.int .i64 0) := ((bcell hA).1 _ _ (by omega)).trans ((q3_2 0).trans (by simp [go_sem]))
  have fr0 : (w3.alloc (.cells #[.int .i64 0, .int .i64 0, .int .i64 0] 138)).frozen? ⟨w.heap.size + 1 + 1, 0, none⟩ = false := ((bcell hA).2 _ _ (by omega)).trans ((f3_2 0).trans (by simp [go_sem]))
  have er1 : (w3.alloc (.cells #[.int .i64 0, .int .i64 0, .int .i64 0] 138)).cell? ⟨w.heap.size + 1 + 1, 1, none⟩ = some (.int .i64 0) := ((bcell hA).1 _ _ (by omega)).trans ((q3_2 1).trans (by simp [go_sem]))
  have fr1 : (w3.alloc (.cells #[.int .i64 0, .int .i64 0, .int .i64 0] 138)).frozen? ⟨w.heap.size + 1 + 1, 1, none⟩ = false := ((bcell hA).2 _ _ (by omega)).trans ((f3_2 1).trans (by simp [go_sem]))
  have er2 : (w3.alloc (.cells #[.int .i64 0, .int .i64 0, .int .i64 0] 138)).cell? ⟨w.heap.size + 1 + 1, 2, none⟩ = some (.int .i64 0) := ((bcell hA).1 _ _ (by omega)).trans ((q3_2 2).trans (by simp [go_sem]))
  have fr2 : (w3.alloc (.cells #[.int .i64 0, .int .i64 0, .int .i64 0] 138)).frozen? ⟨w.heap.size + 1 + 1, 2, none⟩ = false := ((bcell hA).2 _ _ (by omega)).trans ((f3_2 2).trans (by simp [go_sem]))
  have kn := alloc_at w3 (.cells #[.int .i64 0, .int .i64 0, .int .i64 0] 138) _ rfl
  have hB := bthen H3 hA (by omega)
  have hps : ¬ w3.heap.size = w.heap.size + 1 + 1 := by omega
  have hpt : w.heap.size + 3 ≤ w3.heap.size := by omega
  have hpu : w3.heap.size < (w3.alloc (.cells #[.int .i64 0, .int .i64 0, .int .i64 0] 138)).heap.size := by simp
  generalize (w3.alloc (.cells #[.int .i64 0, .int .i64 0, .int .i64 0] 138)) = W at *
  generalize w3.heap.size = p at *
  have n0 := cell_blk kn 0; have n1 := cell_blk kn 1; have n2 := cell_blk kn 2; have nf := fun o => free_blk kn o
  clear hA kn
  go_still_tail 16, (by kernel_rfl)
  go_wp2
  refine bodyPost_ret (by simp [results, Try.results107, go_sem, *]; try rfl) rfl ?_
  exact ⟨rfl, by go_grown⟩
set_option maxRecDepth 100000 in
set_option maxHeartbeats 4000000 in
theorem spec_MapLine_1t (g : Ge) (n b r c h : Int) (w : World) (hv : mapOk g 1 n = true) (he : mapL g 1 false n = ⟨b, r, c⟩) (hh : (b + r) % bankCnt g = h) :
    Calls Try.prog 107 #[.agg #[.int .i64 g.gr, .int .i64 g.bk, .int .i64 g.rw, .int .i64 g.cl], .agg #[.int .i64 1, .bool true], .int .i64 n] w fun e w' => e = .returned (.tuple #[.agg #[.int .i64 h, .int .i64 r, .int .i64 c], .bool true]) ∧ Below w.heap.size w w' := by
  obtain ⟨hg, _, n0, n1, hbt, hmo⟩ := mapOk_bd hv
  obtain ⟨lc, hlc⟩ : ∃ lc, lineCnt g = lc := ⟨_, rfl⟩
  obtain ⟨bc, hbc⟩ : ∃ bc, bankCnt g = bc := ⟨_, rfl⟩
  have hbd := lineCnt_bd g; have hkb := bank_bd hg
  have hgd := geoOk_bd hg
  rw [show g.gr * g.bk = bc by rw [← hbc]; unfold bankCnt; rw [if_pos hg]] at hkb
  have k1 := hkb.1; have k2 := hkb.2
  have g5 := hgd.2.2.2.2.1; have g6 := hgd.2.2.2.2.2.1; have g7 := hgd.2.2.2.2.2.2.1; have g8 := hgd.2.2.2.2.2.2.2
  have had := mapL_ok false hv
  rw [he] at had
  have had := adOk_num had
  rw [hlc] at hbd hbt
  have b0 := hbd.1; have b1 := hbd.2
  have n2 : n ≤ lc - 1 := (btw_true.1 hbt).2
  have d1 := had.1; have d2 := had.2.1; have d3 := had.2.2.1; have d4 := had.2.2.2
  simp only [mapL, hbc, Bool.false_eq_true, if_false, Ad.mk.injEq, if_true, show ¬ (1 : Int) = 0 by omega, show ¬ (2 : Int) = 0 by omega, show ¬ (2 : Int) = 1 by omega] at he
  obtain ⟨X, hX⟩ : ∃ X, n / bc = X := ⟨_, rfl⟩
  rw [hX] at he
  have q1 : 0 ≤ X := hX ▸ Int.ediv_nonneg n0 (by omega)
  have q2 : X ≤ n := hX ▸ Int.ediv_le_self _ n0
  have y1 : n.tdiv bc = X := by rw [Int.tdiv_eq_ediv_of_nonneg n0]; exact hX
  have y2 : X.tdiv g.cl = r := by rw [Int.tdiv_eq_ediv_of_nonneg q1]; exact he.2.1
  have y3 : X.tmod g.cl = c := by rw [Int.tmod_eq_emod_of_nonneg q1]; exact he.2.2
  have y4 : n.tmod bc = b := by rw [Int.tmod_eq_emod_of_nonneg n0]; exact he.1
  have y5 : (b + r).tmod bc = h := by rw [Int.tmod_eq_emod_of_nonneg (by omega), ← hbc]; exact hh
  have y6 : IntKind.i64.wrap (b + r) = b + r := IntWalk.i64_in _ (by omega)
  have z1 : (bc == 0) = false := by simp; omega
  have z2 : (g.cl == 0) = false := by simp; omega
  have z3 : ¬ bc = 0 := by omega
  have z4 : ¬ g.cl = 0 := by omega
  have u1 : IntKind.i64.wrap X = X := IntWalk.i64_in _ (by omega)
  have u2 : IntKind.i64.wrap r = r := IntWalk.i64_in _ (by omega)
  have Y := hide (And.intro y1 (And.intro y2 (And.intro y3 y4)))
  have Y5 := hide (And.intro y5 y6)
  clear y1 y2 y3 y4 hbd hgd hkb he hX had hv n1 y5 y6 hh
  go_enter Try.func107, Try.ntmps107
  go_wp2_with fail
  refine (spec_MappingOk 1 true true hmo _).mono ?_
  rintro e w1 ⟨rfl, h1⟩
  have s1 := h1.size
  try simp only [World.size_alloc, World.size_setCell, World.size_drew, World.heap_drewN] at s1
  have B1_1 := h1
  have z1_0 : w.heap.size < w1.heap.size := by omega
  have q1_0 := fun o => (bcell B1_1).1 (w.heap.size) o (by go_size)
  have f1_0 := fun o => (bcell B1_1).2 (w.heap.size) o (by go_size)
  have z1_1 : w.heap.size + 1 < w1.heap.size := by omega
  have q1_1 := fun o => (bcell B1_1).1 (w.heap.size + 1) o (by go_size)
  have f1_1 := fun o => (bcell B1_1).2 (w.heap.size + 1) o (by go_size)
  have z1_2 : w.heap.size + 1 + 1 < w1.heap.size := by omega
  have q1_2 := fun o => (bcell B1_1).1 (w.heap.size + 1 + 1) o (by go_size)
  have f1_2 := fun o => (bcell B1_1).2 (w.heap.size + 1 + 1) o (by go_size)
  have H1 : Below w.heap.size w w1 := bthen (by repeat' (first | (with_reducible exact Below.refl _ _) | (with_reducible assumption) | (with_reducible refine bdrawn ?_ _) | (with_reducible refine Below.alloc ?_ ?_ _) | (with_reducible refine Below.drew ?_) | (with_reducible refine Below.setCell ?_ ?_ _) | go_size)) h1 (by go_size)
  have C1 := (bcell H1).1; have F1 := (bcell H1).2
  go_wp2_with fail
  refine (spec_LineCount_is g lc hlc _).mono ?_
  rintro e w2 ⟨rfl, h2⟩
  have s2 := h2.size
  try simp only [World.size_alloc, World.size_setCell, World.size_drew, World.heap_drewN] at s2
  have B2_1 := bnext (by first | (with_reducible exact B1_1) | exact (bgrow B1_1 (by go_size) (by repeat' (first | (with_reducible exact Below.refl _ _) | (with_reducible assumption) | (with_reducible refine bdrawn ?_ _) | (with_reducible refine Below.alloc ?_ ?_ _) | (with_reducible refine Below.drew ?_) | (with_reducible refine Below.setCell ?_ ?_ _) | go_size)))) h2 (by go_size)
  have z2_0 : w.heap.size < w2.heap.size := by omega
  have q2_0 := fun o => (bcell B2_1).1 (w.heap.size) o (by go_size)
  have f2_0 := fun o => (bcell B2_1).2 (w.heap.size) o (by go_size)
  have z2_1 : w.heap.size + 1 < w2.heap.size := by omega
  have q2_1 := fun o => (bcell B2_1).1 (w.heap.size + 1) o (by go_size)
  have f2_1 := fun o => (bcell B2_1).2 (w.heap.size + 1) o (by go_size)
  have z2_2 : w.heap.size + 1 + 1 < w2.heap.size := by omega
  have q2_2 := fun o => (bcell B2_1).1 (w.heap.size + 1 + 1) o (by go_size)
  have f2_2 := fun o => (bcell B2_1).2 (w.heap.size + 1 + 1) o (by go_size)
  have H2 : Below w.heap.size w w2 := bthen (by repeat' (first | (with_reducible exact Below.refl _ _) | (with_reducible assumption) | (with_reducible refine bdrawn ?_ _) | (with_reducible refine Below.alloc ?_ ?_ _) | (with_reducible refine Below.drew ?_) | (with_reducible refine Below.setCell ?_ ?_ _) | go_size)) h2 (by go_size)
  have C2 := (bcell H2).1; have F2 := (bcell H2).2
  go_wp2_with (first | (go_at_call 78; refine (btw_eq 78 _ _ _ true _ hbt (spec_l01In _ _ _ _)).mono ?_; rintro e wq ⟨rfl, rfl⟩))
  refine (spec_BankCount_is g bc hbc _).mono ?_
  rintro e w3 ⟨rfl, h3⟩
  have s3 := h3.size
  try simp only [World.size_alloc, World.size_setCell, World.size_drew, World.heap_drewN] at s3
  have B3_1 := bnext (by first | (with_reducible exact B2_1) | exact (bgrow B2_1 (by go_size) (by repeat' (first | (with_reducible exact Below.refl _ _) | (with_reducible assumption) | (with_reducible refine bdrawn ?_ _) | (with_reducible refine Below.alloc ?_ ?_ _) | (with_reducible refine Below.drew ?_) | (with_reducible refine Below.setCell ?_ ?_ _) | go_size)))) h3 (by go_size)
  have z3_0 : w.heap.size < w3.heap.size := by omega
  have q3_0 := fun o => (bcell B3_1).1 (w.heap.size) o (by go_size)
  have f3_0 := fun o => (bcell B3_1).2 (w.heap.size) o (by go_size)
  have z3_1 : w.heap.size + 1 < w3.heap.size := by omega
  have q3_1 := fun o => (bcell B3_1).1 (w.heap.size + 1) o (by go_size)
  have f3_1 := fun o => (bcell B3_1).2 (w.heap.size + 1) o (by go_size)
  have z3_2 : w.heap.size + 1 + 1 < w3.heap.size := by omega
  have q3_2 := fun o => (bcell B3_1).1 (w.heap.size + 1 + 1) o (by go_size)
  have f3_2 := fun o => (bcell B3_1).2 (w.heap.size + 1 + 1) o (by go_size)
  have H3 : Below w.heap.size w w3 := bthen (by repeat' (first | (with_reducible exact Below.refl _ _) | (with_reducible assumption) | (with_reducible refine bdrawn ?_ _) | (with_reducible refine Below.alloc ?_ ?_ _) | (with_reducible refine Below.drew ?_) | (with_reducible refine Below.setCell ?_ ?_ _) | go_size)) h3 (by go_size)
  have C3 := (bcell H3).1; have F3 := (bcell H3).2
  go_wp2_with fail
  obtain ⟨y1, y2, y3, y4⟩ := Y.out
  obtain ⟨y5, y6⟩ := Y5.out
  have hA : Below w3.heap.size w3 (w3.alloc (.cells #[.int .i64 0, .int .i64 0, .int .i64 0] 138)) := Below.alloc (Below.refl _ _) (Nat.le_refl _) _
  have e2 : (w3.alloc (.cells #[.int .i64 0, .int .i64 0, .int .i64 0] 138)).cell? ⟨w.heap.size, 2, none⟩ = some (.int .i64 g.rw) := ((bcell hA).1 _ _ (by omega)).trans ((q3_0 2).trans (by simp [go_sem]))
  have e3 : (w3.alloc (.cells #[.int .i64 0, .int .i64 0, .int .i64 0] 138)).cell? ⟨w.heap.size, 3, none⟩ = some (.int .i64 g.cl) := ((bcell hA).1 _ _ (by omega)).trans ((q3_0 3).trans (by simp [go_sem]))
  have eh : (w3.alloc (.cells #[.int .i64 0, .int .i64 0, .int .i64 0] 138)).cell? ⟨w.heap.size + 1, 1, none⟩ = some (.bool true) := ((bcell hA).1 _ _ (by omega)).trans ((q3_1 1).trans (by simp [go_sem]))
  have er0 : (w3.alloc (.cells #[.int .i64 0, .int .i64 0, .int .i64 0] 138)).cell? ⟨w.heap.size + 1 + 1, 0, none⟩ = some (.int .i64 0) := ((bcell hA).1 _ _ (by omega)).trans ((q3_2 0).trans (by simp [go_sem]))
  have fr0 : (w3.alloc (.cells #[.int .i64 0, .int .i64 0, .int .i64 0] 138)).frozen? ⟨w.heap.size + 1 + 1, 0, none⟩ = false := ((bcell hA).2 _ _ (by omega)).trans ((f3_2 0).trans (by simp [go_sem]))
  have er1 : (w3.alloc (.cells #[.int .i64 0, .int .i64 0, .int .i64 0] 138)).cell? ⟨w.heap.size + 1 + 1, 1, none⟩ = some (.int .i64 0) := ((bcell hA).1 _ _ (by omega)).trans ((q3_2 1).trans (by simp [go_sem]))
  have fr1 : (w3.alloc (.cells #[.int .i64 0, .int .i64 0, .int .i64 0] 138)).frozen? ⟨w.heap.size + 1 + 1, 1, none⟩ = false := ((bcell hA).2 _ _ (by omega)).trans ((f3_2 1).trans (by simp [go_sem]))
  have er2 : (w3.alloc (.cells #[.int .i64 0, .int .i64 0, .int .i64 0] 138)).cell? ⟨w.heap.size + 1 + 1, 2, none⟩ = some (.int .i64 0) := ((bcell hA).1 _ _ (by omega)).trans ((q3_2 2).trans (by simp [go_sem]))
  have fr2 : (w3.alloc (.cells #[.int .i64 0, .int .i64 0, .int .i64 0] 138)).frozen? ⟨w.heap.size + 1 + 1, 2, none⟩ = false := ((bcell hA).2 _ _ (by omega)).trans ((f3_2 2).trans (by simp [go_sem]))
  have kn := alloc_at w3 (.cells #[.int .i64 0, .int .i64 0, .int .i64 0] 138) _ rfl
  have hB := bthen H3 hA (by omega)
  have hps : ¬ w3.heap.size = w.heap.size + 1 + 1 := by omega
  have hpt : w.heap.size + 3 ≤ w3.heap.size := by omega
  have hpu : w3.heap.size < (w3.alloc (.cells #[.int .i64 0, .int .i64 0, .int .i64 0] 138)).heap.size := by simp
  generalize (w3.alloc (.cells #[.int .i64 0, .int .i64 0, .int .i64 0] 138)) = W at *
  generalize w3.heap.size = p at *
  have n0 := cell_blk kn 0; have n1 := cell_blk kn 1; have n2 := cell_blk kn 2; have nf := fun o => free_blk kn o
  clear hA kn
  go_still_tail 16, (by kernel_rfl)
  go_wp2
  refine bodyPost_ret (by simp [results, Try.results107, go_sem, *]; try rfl) rfl ?_
  exact ⟨rfl, by go_grown⟩
set_option maxRecDepth 100000 in
set_option maxHeartbeats 4000000 in
theorem spec_MapLine_2f (g : Ge) (n b r c : Int) (w : World) (hv : mapOk g 2 n = true) (he : mapL g 2 false n = ⟨b, r, c⟩) :
    Calls Try.prog 107 #[.agg #[.int .i64 g.gr, .int .i64 g.bk, .int .i64 g.rw, .int .i64 g.cl], .agg #[.int .i64 2, .bool false], .int .i64 n] w fun e w' => e = .returned (.tuple #[.agg #[.int .i64 b, .int .i64 r, .int .i64 c], .bool true]) ∧ Below w.heap.size w w' := by
  obtain ⟨hg, _, n0, n1, hbt, hmo⟩ := mapOk_bd hv
  obtain ⟨lc, hlc⟩ : ∃ lc, lineCnt g = lc := ⟨_, rfl⟩
  obtain ⟨bc, hbc⟩ : ∃ bc, bankCnt g = bc := ⟨_, rfl⟩
  have hbd := lineCnt_bd g; have hkb := bank_bd hg
  have hgd := geoOk_bd hg
  rw [show g.gr * g.bk = bc by rw [← hbc]; unfold bankCnt; rw [if_pos hg]] at hkb
  have k1 := hkb.1; have k2 := hkb.2
  have g5 := hgd.2.2.2.2.1; have g6 := hgd.2.2.2.2.2.1; have g7 := hgd.2.2.2.2.2.2.1; have g8 := hgd.2.2.2.2.2.2.2
  have had := mapL_ok false hv
  rw [he] at had
  have had := adOk_num had
  rw [hlc] at hbd hbt
  have b0 := hbd.1; have b1 := hbd.2
  have n2 : n ≤ lc - 1 := (btw_true.1 hbt).2
  have d1 := had.1; have d2 := had.2.1; have d3 := had.2.2.1; have d4 := had.2.2.2
  simp only [mapL, hbc, Bool.false_eq_true, if_false, Ad.mk.injEq, if_true, show ¬ (1 : Int) = 0 by omega, show ¬ (2 : Int) = 0 by omega, show ¬ (2 : Int) = 1 by omega] at he
  obtain ⟨X, hX⟩ : ∃ X, n / g.cl = X := ⟨_, rfl⟩
  rw [hX] at he
  have q1 : 0 ≤ X := hX ▸ Int.ediv_nonneg n0 (by omega)
  have q2 : X ≤ n := hX ▸ Int.ediv_le_self _ n0
  have y1 : n.tdiv g.cl = X := by rw [Int.tdiv_eq_ediv_of_nonneg n0]; exact hX
  have y2 : X.tdiv g.rw = b := by rw [Int.tdiv_eq_ediv_of_nonneg q1]; exact he.1
  have y3 : X.tmod g.rw = r := by rw [Int.tmod_eq_emod_of_nonneg q1]; exact he.2.1
  have y4 : n.tmod g.cl = c := by rw [Int.tmod_eq_emod_of_nonneg n0]; exact he.2.2
  have z1 : (g.cl == 0) = false := by simp; omega
  have z2 : (g.rw == 0) = false := by simp; omega
  have z3 : ¬ g.cl = 0 := by omega
  have z4 : ¬ g.rw = 0 := by omega
  have u1 : IntKind.i64.wrap X = X := IntWalk.i64_in _ (by omega)
  have u2 : IntKind.i64.wrap b = b := IntWalk.i64_in _ (by omega)
  have Y := hide (And.intro y1 (And.intro y2 (And.intro y3 y4)))
  skip
  clear y1 y2 y3 y4 hbd hgd hkb he hX had hv n1
  go_enter Try.func107, Try.ntmps107
  go_wp2_with fail
  refine (spec_MappingOk 2 false true hmo _).mono ?_
  rintro e w1 ⟨rfl, h1⟩
  have s1 := h1.size
  try simp only [World.size_alloc, World.size_setCell, World.size_drew, World.heap_drewN] at s1
  have B1_1 := h1
  have z1_0 : w.heap.size < w1.heap.size := by omega
  have q1_0 := fun o => (bcell B1_1).1 (w.heap.size) o (by go_size)
  have f1_0 := fun o => (bcell B1_1).2 (w.heap.size) o (by go_size)
  have z1_1 : w.heap.size + 1 < w1.heap.size := by omega
  have q1_1 := fun o => (bcell B1_1).1 (w.heap.size + 1) o (by go_size)
  have f1_1 := fun o => (bcell B1_1).2 (w.heap.size + 1) o (by go_size)
  have z1_2 : w.heap.size + 1 + 1 < w1.heap.size := by omega
  have q1_2 := fun o => (bcell B1_1).1 (w.heap.size + 1 + 1) o (by go_size)
  have f1_2 := fun o => (bcell B1_1).2 (w.heap.size + 1 + 1) o (by go_size)
  have H1 : Below w.heap.size w w1 := bthen (by repeat' (first | (with_reducible exact Below.refl _ _) | (with_reducible assumption) | (with_reducible refine bdrawn ?_ _) | (with_reducible refine Below.alloc ?_ ?_ _) | (with_reducible refine Below.drew ?_) | (with_reducible refine Below.setCell ?_ ?_ _) | go_size)) h1 (by go_size)
  have C1 := (bcell H1).1; have F1 := (bcell H1).2
  go_wp2_with fail
  refine (spec_LineCount_is g lc hlc _).mono ?_
  rintro e w2 ⟨rfl, h2⟩
  have s2 := h2.size
  try simp only [World.size_alloc, World.size_setCell, World.size_drew, World.heap_drewN] at s2
  have B2_1 := bnext (by first | (with_reducible exact B1_1) | exact (bgrow B1_1 (by go_size) (by repeat' (first | (with_reducible exact Below.refl _ _) | (with_reducible assumption) | (with_reducible refine bdrawn ?_ _) | (with_reducible refine Below.alloc ?_ ?_ _) | (with_reducible refine Below.drew ?_) | (with_reducible refine Below.setCell ?_ ?_ _) | go_size)))) h2 (by go_size)
  have z2_0 : w.heap.size < w2.heap.size := by omega
  have q2_0 := fun o => (bcell B2_1).1 (w.heap.size) o (by go_size)
  have f2_0 := fun o => (bcell B2_1).2 (w.heap.size) o (by go_size)
  have z2_1 : w.heap.size + 1 < w2.heap.size := by omega
  have q2_1 := fun o => (bcell B2_1).1 (w.heap.size + 1) o (by go_size)
  have f2_1 := fun o => (bcell B2_1).2 (w.heap.size + 1) o (by go_size)
  have z2_2 : w.heap.size + 1 + 1 < w2.heap.size := by omega
  have q2_2 := fun o => (bcell B2_1).1 (w.heap.size + 1 + 1) o (by go_size)
  have f2_2 := fun o => (bcell B2_1).2 (w.heap.size + 1 + 1) o (by go_size)
  have H2 : Below w.heap.size w w2 := bthen (by repeat' (first | (with_reducible exact Below.refl _ _) | (with_reducible assumption) | (with_reducible refine bdrawn ?_ _) | (with_reducible refine Below.alloc ?_ ?_ _) | (with_reducible refine Below.drew ?_) | (with_reducible refine Below.setCell ?_ ?_ _) | go_size)) h2 (by go_size)
  have C2 := (bcell H2).1; have F2 := (bcell H2).2
  go_wp2_with (first | (go_at_call 78; refine (btw_eq 78 _ _ _ true _ hbt (spec_l01In _ _ _ _)).mono ?_; rintro e wq ⟨rfl, rfl⟩))
  refine (spec_BankCount_is g bc hbc _).mono ?_
  rintro e w3 ⟨rfl, h3⟩
  have s3 := h3.size
  try simp only [World.size_alloc, World.size_setCell, World.size_drew, World.heap_drewN] at s3
  have B3_1 := bnext (by first | (with_reducible exact B2_1) | exact (bgrow B2_1 (by go_size) (by repeat' (first | (with_reducible exact Below.refl _ _) | (with_reducible assumption) | (with_reducible refine bdrawn ?_ _) | (with_reducible refine Below.alloc ?_ ?_ _) | (with_reducible refine Below.drew ?_) | (with_reducible refine Below.setCell ?_ ?_ _) | go_size)))) h3 (by go_size)
  have z3_0 : w.heap.size < w3.heap.size := by omega
  have q3_0 := fun o => (bcell B3_1).1 (w.heap.size) o (by go_size)
  have f3_0 := fun o => (bcell B3_1).2 (w.heap.size) o (by go_size)
  have z3_1 : w.heap.size + 1 < w3.heap.size := by omega
  have q3_1 := fun o => (bcell B3_1).1 (w.heap.size + 1) o (by go_size)
  have f3_1 := fun o => (bcell B3_1).2 (w.heap.size + 1) o (by go_size)
  have z3_2 : w.heap.size + 1 + 1 < w3.heap.size := by omega
  have q3_2 := fun o => (bcell B3_1).1 (w.heap.size + 1 + 1) o (by go_size)
  have f3_2 := fun o => (bcell B3_1).2 (w.heap.size + 1 + 1) o (by go_size)
  have H3 : Below w.heap.size w w3 := bthen (by repeat' (first | (with_reducible exact Below.refl _ _) | (with_reducible assumption) | (with_reducible refine bdrawn ?_ _) | (with_reducible refine Below.alloc ?_ ?_ _) | (with_reducible refine Below.drew ?_) | (with_reducible refine Below.setCell ?_ ?_ _) | go_size)) h3 (by go_size)
  have C3 := (bcell H3).1; have F3 := (bcell H3).2
  go_wp2_with fail
  obtain ⟨y1, y2, y3, y4⟩ := Y.out
  have hA : Below w3.heap.size w3 (w3.alloc (.cells #[.int .i64 0, .int .i64 0, .int .i64 0] 138)) := Below.alloc (Below.refl _ _) (Nat.le_refl _) _
  have e2 : (w3.alloc (.cells #[.int .i64 0, .int .i64 0, .int .i64 0] 138)).cell? ⟨w.heap.size, 2, none⟩ = some (.int .i64 g.rw) := ((bcell hA).1 _ _ (by omega)).trans ((q3_0 2).trans (by simp [go_sem]))
  have e3 : (w3.alloc (.cells #[.int .i64 0, .int .i64 0, .int .i64 0] 138)).cell? ⟨w.heap.size, 3, none⟩ = some (.int .i64 g.cl) := ((bcell hA).1 _ _ (by omega)).trans ((q3_0 3).trans (by simp [go_sem]))
  have eh : (w3.alloc (.cells #[.int .i64 0, .int .i64 0, .int .i64 0] 138)).cell? ⟨w.heap.size + 1, 1, none⟩ = some (.bool false) := ((bcell hA).1 _ _ (by omega)).trans ((q3_1 1).trans (by simp [go_sem]))
  have er0 : (w3.alloc (.cells #[.int .i64 0, .int .i64 0, .int .i64 0] 138)).cell? ⟨w.heap.size + 1 + 1, 0, none⟩ = some (.int .i64 0) := ((bcell hA).1 _ _ (by omega)).trans ((q3_2 0).trans (by simp [go_sem]))
  have fr0 : (w3.alloc (.cells #[.int .i64 0, .int .i64 0, .int .i64 0] 138)).frozen? ⟨w.heap.size + 1 + 1, 0, none⟩ = false := ((bcell hA).2 _ _ (by omega)).trans ((f3_2 0).trans (by simp [go_sem]))
  have er1 : (w3.alloc (.cells #[.int .i64 0, .int .i64 0, .int .i64 0] 138)).cell? ⟨w.heap.size + 1 + 1, 1, none⟩ = some (.int .i64 0) := ((bcell hA).1 _ _ (by omega)).trans ((q3_2 1).trans (by simp [go_sem]))
  have fr1 : (w3.alloc (.cells #[.int .i64 0, .int .i64 0, .int .i64 0] 138)).frozen? ⟨w.heap.size + 1 + 1, 1, none⟩ = false := ((bcell hA).2 _ _ (by omega)).trans ((f3_2 1).trans (by simp [go_sem]))
  have er2 : (w3.alloc (.cells #[.int .i64 0, .int .i64 0, .int .i64 0] 138)).cell? ⟨w.heap.size + 1 + 1, 2, none⟩ = some (.int .i64 0) := ((bcell hA).1 _ _ (by omega)).trans ((q3_2 2).trans (by simp [go_sem]))
  have fr2 : (w3.alloc (.cells #[.int .i64 0, .int .i64 0, .int .i64 0] 138)).frozen? ⟨w.heap.size + 1 + 1, 2, none⟩ = false := ((bcell hA).2 _ _ (by omega)).trans ((f3_2 2).trans (by simp [go_sem]))
  have kn := alloc_at w3 (.cells #[.int .i64 0, .int .i64 0, .int .i64 0] 138) _ rfl
  have hB := bthen H3 hA (by omega)
  have hps : ¬ w3.heap.size = w.heap.size + 1 + 1 := by omega
  have hpt : w.heap.size + 3 ≤ w3.heap.size := by omega
  have hpu : w3.heap.size < (w3.alloc (.cells #[.int .i64 0, .int .i64 0, .int .i64 0] 138)).heap.size := by simp
  generalize (w3.alloc (.cells #[.int .i64 0, .int .i64 0, .int .i64 0] 138)) = W at *
  generalize w3.heap.size = p at *
  have n0 := cell_blk kn 0; have n1 := cell_blk kn 1; have n2 := cell_blk kn 2; have nf := fun o => free_blk kn o
  clear hA kn
  go_still_tail 19, (by kernel_rfl)
  go_wp2
  refine bodyPost_ret (by simp [results, Try.results107, go_sem, *]; try rfl) rfl ?_
  exact ⟨rfl, by go_grown⟩
set_option maxRecDepth 100000 in
set_option maxHeartbeats 4000000 in
theorem spec_MapLine_2t (g : Ge) (n b r c h : Int) (w : World) (hv : mapOk g 2 n = true) (he : mapL g 2 false n = ⟨b, r, c⟩) (hh : (b + r) % bankCnt g = h) :
    Calls Try.prog 107 #[.agg #[.int .i64 g.gr, .int .i64 g.bk, .int .i64 g.rw, .int .i64 g.cl], .agg #[.int .i64 2, .bool true], .int .i64 n] w fun e w' => e = .returned (.tuple #[.agg #[.int .i64 h, .int .i64 r, .int .i64 c], .bool true]) ∧ Below w.heap.size w w' := by
  obtain ⟨hg, _, n0, n1, hbt, hmo⟩ := mapOk_bd hv
  obtain ⟨lc, hlc⟩ : ∃ lc, lineCnt g = lc := ⟨_, rfl⟩
  obtain ⟨bc, hbc⟩ : ∃ bc, bankCnt g = bc := ⟨_, rfl⟩
  have hbd := lineCnt_bd g; have hkb := bank_bd hg
  have hgd := geoOk_bd hg
  rw [show g.gr * g.bk = bc by rw [← hbc]; unfold bankCnt; rw [if_pos hg]] at hkb
  have k1 := hkb.1; have k2 := hkb.2
  have g5 := hgd.2.2.2.2.1; have g6 := hgd.2.2.2.2.2.1; have g7 := hgd.2.2.2.2.2.2.1; have g8 := hgd.2.2.2.2.2.2.2
  have had := mapL_ok false hv
  rw [he] at had
  have had := adOk_num had
  rw [hlc] at hbd hbt
  have b0 := hbd.1; have b1 := hbd.2
  have n2 : n ≤ lc - 1 := (btw_true.1 hbt).2
  have d1 := had.1; have d2 := had.2.1; have d3 := had.2.2.1; have d4 := had.2.2.2
  simp only [mapL, hbc, Bool.false_eq_true, if_false, Ad.mk.injEq, if_true, show ¬ (1 : Int) = 0 by omega, show ¬ (2 : Int) = 0 by omega, show ¬ (2 : Int) = 1 by omega] at he
  obtain ⟨X, hX⟩ : ∃ X, n / g.cl = X := ⟨_, rfl⟩
  rw [hX] at he
  have q1 : 0 ≤ X := hX ▸ Int.ediv_nonneg n0 (by omega)
  have q2 : X ≤ n := hX ▸ Int.ediv_le_self _ n0
  have y1 : n.tdiv g.cl = X := by rw [Int.tdiv_eq_ediv_of_nonneg n0]; exact hX
  have y2 : X.tdiv g.rw = b := by rw [Int.tdiv_eq_ediv_of_nonneg q1]; exact he.1
  have y3 : X.tmod g.rw = r := by rw [Int.tmod_eq_emod_of_nonneg q1]; exact he.2.1
  have y4 : n.tmod g.cl = c := by rw [Int.tmod_eq_emod_of_nonneg n0]; exact he.2.2
  have y5 : (b + r).tmod bc = h := by rw [Int.tmod_eq_emod_of_nonneg (by omega), ← hbc]; exact hh
  have y6 : IntKind.i64.wrap (b + r) = b + r := IntWalk.i64_in _ (by omega)
  have z1 : (g.cl == 0) = false := by simp; omega
  have z2 : (g.rw == 0) = false := by simp; omega
  have z3 : ¬ g.cl = 0 := by omega
  have z4 : ¬ g.rw = 0 := by omega
  have z5 : (bc == 0) = false := by simp; omega
  have z6 : ¬ bc = 0 := by omega
  have u1 : IntKind.i64.wrap X = X := IntWalk.i64_in _ (by omega)
  have u2 : IntKind.i64.wrap b = b := IntWalk.i64_in _ (by omega)
  have Y := hide (And.intro y1 (And.intro y2 (And.intro y3 y4)))
  have Y5 := hide (And.intro y5 y6)
  clear y1 y2 y3 y4 hbd hgd hkb he hX had hv n1 y5 y6 hh
  go_enter Try.func107, Try.ntmps107
  go_wp2_with fail
  refine (spec_MappingOk 2 true true hmo _).mono ?_
  rintro e w1 ⟨rfl, h1⟩
  have s1 := h1.size
  try simp only [World.size_alloc, World.size_setCell, World.size_drew, World.heap_drewN] at s1
  have B1_1 := h1
  have z1_0 : w.heap.size < w1.heap.size := by omega
  have q1_0 := fun o => (bcell B1_1).1 (w.heap.size) o (by go_size)
  have f1_0 := fun o => (bcell B1_1).2 (w.heap.size) o (by go_size)
  have z1_1 : w.heap.size + 1 < w1.heap.size := by omega
  have q1_1 := fun o => (bcell B1_1).1 (w.heap.size + 1) o (by go_size)
  have f1_1 := fun o => (bcell B1_1).2 (w.heap.size + 1) o (by go_size)
  have z1_2 : w.heap.size + 1 + 1 < w1.heap.size := by omega
  have q1_2 := fun o => (bcell B1_1).1 (w.heap.size + 1 + 1) o (by go_size)
  have f1_2 := fun o => (bcell B1_1).2 (w.heap.size + 1 + 1) o (by go_size)
  have H1 : Below w.heap.size w w1 := bthen (by repeat' (first | (with_reducible exact Below.refl _ _) | (with_reducible assumption) | (with_reducible refine bdrawn ?_ _) | (with_reducible refine Below.alloc ?_ ?_ _) | (with_reducible refine Below.drew ?_) | (with_reducible refine Below.setCell ?_ ?_ _) | go_size)) h1 (by go_size)
  have C1 := (bcell H1).1; have F1 := (bcell H1).2
  go_wp2_with fail
  refine (spec_LineCount_is g lc hlc _).mono ?_
  rintro e w2 ⟨rfl, h2⟩
  have s2 := h2.size
  try simp only [World.size_alloc, World.size_setCell, World.size_drew, World.heap_drewN] at s2
  have B2_1 := bnext (by first | (with_reducible exact B1_1) | exact (bgrow B1_1 (by go_size) (by repeat' (first | (with_reducible exact Below.refl _ _) | (with_reducible assumption) | (with_reducible refine bdrawn ?_ _) | (with_reducible refine Below.alloc ?_ ?_ _) | (with_reducible refine Below.drew ?_) | (with_reducible refine Below.setCell ?_ ?_ _) | go_size)))) h2 (by go_size)
  have z2_0 : w.heap.size < w2.heap.size := by omega
  have q2_0 := fun o => (bcell B2_1).1 (w.heap.size) o (by go_size)
  have f2_0 := fun o => (bcell B2_1).2 (w.heap.size) o (by go_size)
  have z2_1 : w.heap.size + 1 < w2.heap.size := by omega
  have q2_1 := fun o => (bcell B2_1).1 (w.heap.size + 1) o (by go_size)
  have f2_1 := fun o => (bcell B2_1).2 (w.heap.size + 1) o (by go_size)
  have z2_2 : w.heap.size + 1 + 1 < w2.heap.size := by omega
  have q2_2 := fun o => (bcell B2_1).1 (w.heap.size + 1 + 1) o (by go_size)
  have f2_2 := fun o => (bcell B2_1).2 (w.heap.size + 1 + 1) o (by go_size)
  have H2 : Below w.heap.size w w2 := bthen (by repeat' (first | (with_reducible exact Below.refl _ _) | (with_reducible assumption) | (with_reducible refine bdrawn ?_ _) | (with_reducible refine Below.alloc ?_ ?_ _) | (with_reducible refine Below.drew ?_) | (with_reducible refine Below.setCell ?_ ?_ _) | go_size)) h2 (by go_size)
  have C2 := (bcell H2).1; have F2 := (bcell H2).2
  go_wp2_with (first | (go_at_call 78; refine (btw_eq 78 _ _ _ true _ hbt (spec_l01In _ _ _ _)).mono ?_; rintro e wq ⟨rfl, rfl⟩))
  refine (spec_BankCount_is g bc hbc _).mono ?_
  rintro e w3 ⟨rfl, h3⟩
  have s3 := h3.size
  try simp only [World.size_alloc, World.size_setCell, World.size_drew, World.heap_drewN] at s3
  have B3_1 := bnext (by first | (with_reducible exact B2_1) | exact (bgrow B2_1 (by go_size) (by repeat' (first | (with_reducible exact Below.refl _ _) | (with_reducible assumption) | (with_reducible refine bdrawn ?_ _) | (with_reducible refine Below.alloc ?_ ?_ _) | (with_reducible refine Below.drew ?_) | (with_reducible refine Below.setCell ?_ ?_ _) | go_size)))) h3 (by go_size)
  have z3_0 : w.heap.size < w3.heap.size := by omega
  have q3_0 := fun o => (bcell B3_1).1 (w.heap.size) o (by go_size)
  have f3_0 := fun o => (bcell B3_1).2 (w.heap.size) o (by go_size)
  have z3_1 : w.heap.size + 1 < w3.heap.size := by omega
  have q3_1 := fun o => (bcell B3_1).1 (w.heap.size + 1) o (by go_size)
  have f3_1 := fun o => (bcell B3_1).2 (w.heap.size + 1) o (by go_size)
  have z3_2 : w.heap.size + 1 + 1 < w3.heap.size := by omega
  have q3_2 := fun o => (bcell B3_1).1 (w.heap.size + 1 + 1) o (by go_size)
  have f3_2 := fun o => (bcell B3_1).2 (w.heap.size + 1 + 1) o (by go_size)
  have H3 : Below w.heap.size w w3 := bthen (by repeat' (first | (with_reducible exact Below.refl _ _) | (with_reducible assumption) | (with_reducible refine bdrawn ?_ _) | (with_reducible refine Below.alloc ?_ ?_ _) | (with_reducible refine Below.drew ?_) | (with_reducible refine Below.setCell ?_ ?_ _) | go_size)) h3 (by go_size)
  have C3 := (bcell H3).1; have F3 := (bcell H3).2
  go_wp2_with fail
  obtain ⟨y1, y2, y3, y4⟩ := Y.out
  obtain ⟨y5, y6⟩ := Y5.out
  have hA : Below w3.heap.size w3 (w3.alloc (.cells #[.int .i64 0, .int .i64 0, .int .i64 0] 138)) := Below.alloc (Below.refl _ _) (Nat.le_refl _) _
  have e2 : (w3.alloc (.cells #[.int .i64 0, .int .i64 0, .int .i64 0] 138)).cell? ⟨w.heap.size, 2, none⟩ = some (.int .i64 g.rw) := ((bcell hA).1 _ _ (by omega)).trans ((q3_0 2).trans (by simp [go_sem]))
  have e3 : (w3.alloc (.cells #[.int .i64 0, .int .i64 0, .int .i64 0] 138)).cell? ⟨w.heap.size, 3, none⟩ = some (.int .i64 g.cl) := ((bcell hA).1 _ _ (by omega)).trans ((q3_0 3).trans (by simp [go_sem]))
  have eh : (w3.alloc (.cells #[.int .i64 0, .int .i64 0, .int .i64 0] 138)).cell? ⟨w.heap.size + 1, 1, none⟩ = some (.bool true) := ((bcell hA).1 _ _ (by omega)).trans ((q3_1 1).trans (by simp [go_sem]))
  have er0 : (w3.alloc (.cells #[.int .i64 0, .int .i64 0, .int .i64 0] 138)).cell? ⟨w.heap.size + 1 + 1, 0, none⟩ = some (.int .i64 0) := ((bcell hA).1 _ _ (by omega)).trans ((q3_2 0).trans (by simp [go_sem]))
  have fr0 : (w3.alloc (.cells #[.int .i64 0, .int .i64 0, .int .i64 0] 138)).frozen? ⟨w.heap.size + 1 + 1, 0, none⟩ = false := ((bcell hA).2 _ _ (by omega)).trans ((f3_2 0).trans (by simp [go_sem]))
  have er1 : (w3.alloc (.cells #[.int .i64 0, .int .i64 0, .int .i64 0] 138)).cell? ⟨w.heap.size + 1 + 1, 1, none⟩ = some (.int .i64 0) := ((bcell hA).1 _ _ (by omega)).trans ((q3_2 1).trans (by simp [go_sem]))
  have fr1 : (w3.alloc (.cells #[.int .i64 0, .int .i64 0, .int .i64 0] 138)).frozen? ⟨w.heap.size + 1 + 1, 1, none⟩ = false := ((bcell hA).2 _ _ (by omega)).trans ((f3_2 1).trans (by simp [go_sem]))
  have er2 : (w3.alloc (.cells #[.int .i64 0, .int .i64 0, .int .i64 0] 138)).cell? ⟨w.heap.size + 1 + 1, 2, none⟩ = some (.int .i64 0) := ((bcell hA).1 _ _ (by omega)).trans ((q3_2 2).trans (by simp [go_sem]))
  have fr2 : (w3.alloc (.cells #[.int .i64 0, .int .i64 0, .int .i64 0] 138)).frozen? ⟨w.heap.size + 1 + 1, 2, none⟩ = false := ((bcell hA).2 _ _ (by omega)).trans ((f3_2 2).trans (by simp [go_sem]))
  have kn := alloc_at w3 (.cells #[.int .i64 0, .int .i64 0, .int .i64 0] 138) _ rfl
  have hB := bthen H3 hA (by omega)
  have hps : ¬ w3.heap.size = w.heap.size + 1 + 1 := by omega
  have hpt : w.heap.size + 3 ≤ w3.heap.size := by omega
  have hpu : w3.heap.size < (w3.alloc (.cells #[.int .i64 0, .int .i64 0, .int .i64 0] 138)).heap.size := by simp
  generalize (w3.alloc (.cells #[.int .i64 0, .int .i64 0, .int .i64 0] 138)) = W at *
  generalize w3.heap.size = p at *
  have n0 := cell_blk kn 0; have n1 := cell_blk kn 1; have n2 := cell_blk kn 2; have nf := fun o => free_blk kn o
  clear hA kn
  go_still_tail 19, (by kernel_rfl)
  go_wp2
  refine bodyPost_ret (by simp [results, Try.results107, go_sem, *]; try rfl) rfl ?_
  exact ⟨rfl, by go_grown⟩
/-- The place of a line that the mapping takes. -/
theorem impl_MapLine (g : Ge) (mo n : Int) (mh : Bool) (b r c : Int) (w : World) (hv : mapOk g mo n = true) (he : mapL g mo mh n = ⟨b, r, c⟩) :
    Calls Try.prog 97 #[.agg #[.int .i64 g.gr, .int .i64 g.bk, .int .i64 g.rw, .int .i64 g.cl], .agg #[.int .i64 mo, .bool mh], .int .i64 n] w fun e w' => e = .returned (.tuple #[.agg #[.int .i64 b, .int .i64 r, .int .i64 c], .bool true]) ∧ Below w.heap.size w w' := by
  have hm := (mapOk_bd hv).2.1
  obtain ⟨x, hx⟩ : ∃ x, mapL g mo false n = x := ⟨_, rfl⟩
  obtain ⟨b', r', c'⟩ := x
  cases mh
  · rw [hx] at he
    injection he with e1 e2 e3
    subst e1 e2 e3
    rcases (show mo = 0 ∨ mo = 1 ∨ mo = 2 by omega) with rfl | rfl | rfl
    · exact impl_MapLine_0f g n _ _ _ w hv hx
    · exact impl_MapLine_1f g n _ _ _ w hv hx
    · exact impl_MapLine_2f g n _ _ _ w hv hx
  · have e : mapL g mo true n = ⟨(b' + r') % bankCnt g, r', c'⟩ := by
      have h1 : mapL g mo true n = ⟨((mapL g mo false n).b + (mapL g mo false n).r) % bankCnt g, (mapL g mo false n).r, (mapL g mo false n).c⟩ := by simp only [mapL, if_true, Bool.false_eq_true, if_false]
      rw [h1, hx]
    rw [e] at he
    injection he with e1 e2 e3
    subst e2 e3
    rcases (show mo = 0 ∨ mo = 1 ∨ mo = 2 by omega) with rfl | rfl | rfl
    · exact impl_MapLine_0t g n _ _ _ _ w hv hx e1
    · exact impl_MapLine_1t g n _ _ _ _ w hv hx e1
    · exact impl_MapLine_2t g n _ _ _ _ w hv hx e1
/-- The place of a line that the mapping takes. -/
theorem spec_MapLine (g : Ge) (mo n : Int) (mh : Bool) (b r c : Int) (w : World) (hv : mapOk g mo n = true) (he : mapL g mo mh n = ⟨b, r, c⟩) :
    Calls Try.prog 107 #[.agg #[.int .i64 g.gr, .int .i64 g.bk, .int .i64 g.rw, .int .i64 g.cl], .agg #[.int .i64 mo, .bool mh], .int .i64 n] w fun e w' => e = .returned (.tuple #[.agg #[.int .i64 b, .int .i64 r, .int .i64 c], .bool true]) ∧ Below w.heap.size w w' := by
  have hm := (mapOk_bd hv).2.1
  obtain ⟨x, hx⟩ : ∃ x, mapL g mo false n = x := ⟨_, rfl⟩
  obtain ⟨b', r', c'⟩ := x
  cases mh
  · rw [hx] at he
    injection he with e1 e2 e3
    subst e1 e2 e3
    rcases (show mo = 0 ∨ mo = 1 ∨ mo = 2 by omega) with rfl | rfl | rfl
    · exact spec_MapLine_0f g n _ _ _ w hv hx
    · exact spec_MapLine_1f g n _ _ _ w hv hx
    · exact spec_MapLine_2f g n _ _ _ w hv hx
  · have e : mapL g mo true n = ⟨(b' + r') % bankCnt g, r', c'⟩ := by
      have h1 : mapL g mo true n = ⟨((mapL g mo false n).b + (mapL g mo false n).r) % bankCnt g, (mapL g mo false n).r, (mapL g mo false n).c⟩ := by simp only [mapL, if_true, Bool.false_eq_true, if_false]
      rw [h1, hx]
    rw [e] at he
    injection he with e1 e2 e3
    subst e2 e3
    rcases (show mo = 0 ∨ mo = 1 ∨ mo = 2 by omega) with rfl | rfl | rfl
    · exact spec_MapLine_0t g n _ _ _ _ w hv hx e1
    · exact spec_MapLine_1t g n _ _ _ _ w hv hx e1
    · exact spec_MapLine_2t g n _ _ _ _ w hv hx e1
end Go.Proofs.Ytahfbhfmhccgoaa
