/- For every list of lanes the program's CommonPass returns what the reference's returns, in memory of its own, and leaves the lanes as they were. No condition. -/
import Derived.Test.YtlaoeaecbdmebaaCommon2
set_option linter.unusedSimpArgs false
set_option linter.unusedVariables false
namespace Go.Proofs.Ytlaoeaecbdmebaa
open Go.RowKit Go.ChangeShapes Go.WideShapes Go.ChangeAt Go.Joins Go.Deep
open Go.ChangeMaps (open_string shut_string)
theorem sz_is (a : Option Addr) (n c : Nat) (hs : List Hd) (xss : List (List Bool)) (r : Int) (h : szNest 1048576 n hs = r) (w : World) (hn : IsNest .bool w a n c hs xss) :
    Calls Try.prog 38 #[.slice a n c, .int .i64 1048576] w fun e w' => e = .returned (.int .i64 r) ∧ Below w.heap.size w w' := by subst h; exact laws_szBoolSS a n c hs xss 1048576 w hn (by omega) (by omega)
theorem sumN_eq {gs hs : List Hd} (h : gs.map (·.n) = hs.map (·.n)) : sumN gs = sumN hs := by unfold sumN; rw [h]
set_option maxRecDepth 100000 in
set_option maxHeartbeats 4000000 in
theorem FnExactCommonPass_walk (a : Option Addr) (n c : Nat) (p : List Hd × List (List Bool)) (w : World) (ha : IsNest .bool w a n c p.1 p.2) :
    Calls Try.prog 6 #[.slice a n c] w fun e w' => e = .returned (.bool true) ∧ Below w.heap.size w w' := by
  obtain ⟨hs, xss⟩ := p
  simp only at ha
  have hm : c ≤ 9223372036854775807 := ha.2.2.1
  have hc := ha.2.1
  have HA := hide ha
  have HLn := hide (rows_lens ha.2.2.2.2)
  clear ha
  obtain ⟨r, hr⟩ : ∃ r, szNest 1048576 n hs = r := ⟨_, rfl⟩
  by_cases hneg : r < 0
  · go_enter Try.func6, Try.ntmps6
    go_wp2_with fail
    refine (sz_is _ _ _ _ _ r hr _ HA.out).mono ?_
    rintro e w1 ⟨rfl, h1⟩
    go_wp2_with fail
    go_ret
    exact ⟨rfl, h1⟩
  · have hsz : n + sumN hs ≤ 1048576 := by
      unfold szNest at hr
      split at hr <;> omega
    have HALL := hide (show ∀ h ∈ hs, h.n ≤ 1048576 from fun h hh => by
      obtain ⟨i, hi, rfl⟩ := List.getElem_of_mem hh
      have := sumN_at (List.getElem?_eq_getElem hi)
      omega)
    have HR := hide hr
    obtain ⟨N, hN'⟩ : ∃ N, (com xss).length = N := ⟨_, rfl⟩
    have hN64 : N ≤ 64 := by rw [← hN']; exact com_le xss
    have hN := hide hN'
    have HM := hide (show ∀ gs : List Hd, gs.map (·.n) = (xss.map (·.map Value.bool)).map (·.length) → sumN gs = sumN hs from fun gs hg => sumN_eq (by rw [hg, HLn.out]; simp))
    clear hr hN' HLn
    have g8 : (0 : Int) ≤ (N : Int) := by omega
    have hn1 : n ≤ 1048576 := by omega
    have g7 : (0 : Int) ≤ ((sumN hs : Nat) : Int) := by omega
    go_enter Try.func6, Try.ntmps6
    go_wp2_with fail
    refine (sz_is _ _ _ _ _ r HR.out _ HA.out).mono ?_
    rintro e w1 ⟨rfl, h1⟩
    have s1 := h1.size
    try simp only [World.size_alloc, World.size_setCell, World.size_drew, World.heap_drewN] at s1
    have H1 : Below w.heap.size w w1 := bthen (by repeat' (first | (with_reducible exact Below.refl _ _) | (with_reducible assumption) | (with_reducible refine bdrawn ?_ _) | (with_reducible refine Below.alloc ?_ ?_ _) | (with_reducible refine Below.drew ?_) | (with_reducible refine Below.setCell ?_ ?_ _) | go_size)) h1 (by go_size)
    have C1 := (bcell H1).1; have F1 := (bcell H1).2
    go_wp2_with fail
    refine (laws_toBoolSS _ _ _ hs xss _ (HA.out.below H1 (Nat.le_refl _)) hn1 HALL.out).mono ?_
    rintro e w2 ⟨pa, pc, pg, pm, rfl, pa2, pb2, po, pr, pl, h2⟩
    have s2 := h2.size
    try simp only [World.size_alloc, World.size_setCell, World.size_drew, World.heap_drewN] at s2
    have H2 : Below w.heap.size w w2 := bthen (by repeat' (first | (with_reducible exact Below.refl _ _) | (with_reducible assumption) | (with_reducible refine bdrawn ?_ _) | (with_reducible refine Below.alloc ?_ ?_ _) | (with_reducible refine Below.drew ?_) | (with_reducible refine Below.setCell ?_ ?_ _) | go_size)) h2 (by go_size)
    have C2 := (bcell H2).1; have F2 := (bcell H2).2
    have po := hide po; have pr := hide pr
    go_wp2_with fail
    refine (spec_CommonPass _ _ _ _ xss N _ (isNest_own po.out pr.out) hn1 hN.out).mono ?_
    rintro e w3 ⟨a3, c3, rfl, o3, h3⟩
    have s3 := h3.size
    try simp only [World.size_alloc, World.size_setCell, World.size_drew, World.heap_drewN] at s3
    have H3 : Below w.heap.size w w3 := bthen (by repeat' (first | (with_reducible exact Below.refl _ _) | (with_reducible assumption) | (with_reducible refine bdrawn ?_ _) | (with_reducible refine Below.alloc ?_ ?_ _) | (with_reducible refine Below.drew ?_) | (with_reducible refine Below.setCell ?_ ?_ _) | go_size)) h3 (by go_size)
    have C3 := (bcell H3).1; have F3 := (bcell H3).2
    have P3 : Below w2.heap.size w2 w3 := bthen (by repeat' (first | (with_reducible exact Below.refl _ _) | (with_reducible assumption) | (with_reducible refine bdrawn ?_ _) | (with_reducible refine Below.alloc ?_ ?_ _) | (with_reducible refine Below.drew ?_) | (with_reducible refine Below.setCell ?_ ?_ _) | go_size)) h3 (by go_size)
    replace po := hide (po.out.below P3 (by omega))
    replace pr := hide (pr.out.below P3 (by omega))
    have q := hide (Owned.of_own o3)
    clear o3
    go_wp2_with fail
    refine (laws_toBoolSS _ _ _ hs xss _ (HA.out.below H3 (Nat.le_refl _)) hn1 HALL.out).mono ?_
    rintro e w4 ⟨xa, xc, xg, xm, rfl, xa4, xb4, xo, xr, xl, h4⟩
    have s4 := h4.size
    try simp only [World.size_alloc, World.size_setCell, World.size_drew, World.heap_drewN] at s4
    have H4 : Below w.heap.size w w4 := bthen (by repeat' (first | (with_reducible exact Below.refl _ _) | (with_reducible assumption) | (with_reducible refine bdrawn ?_ _) | (with_reducible refine Below.alloc ?_ ?_ _) | (with_reducible refine Below.drew ?_) | (with_reducible refine Below.setCell ?_ ?_ _) | go_size)) h4 (by go_size)
    have C4 := (bcell H4).1; have F4 := (bcell H4).2
    have P4 : Below w3.heap.size w3 w4 := bthen (by repeat' (first | (with_reducible exact Below.refl _ _) | (with_reducible assumption) | (with_reducible refine bdrawn ?_ _) | (with_reducible refine Below.alloc ?_ ?_ _) | (with_reducible refine Below.drew ?_) | (with_reducible refine Below.setCell ?_ ?_ _) | go_size)) h4 (by go_size)
    replace po := hide (po.out.below P4 (by omega))
    replace pr := hide (pr.out.below P4 (by omega))
    replace q := hide (q.out.below P4 (by omega))
    have xo := hide xo; have xr := hide xr; have XL := hide (HM.out _ xl); clear xl
    go_wp2_with fail
    refine (impl_CommonPass _ _ _ _ xss N _ (isNest_own xo.out xr.out) hn1 hN.out).mono ?_
    rintro e w5 ⟨a5, c5, rfl, o5, h5⟩
    have s5 := h5.size
    try simp only [World.size_alloc, World.size_setCell, World.size_drew, World.heap_drewN] at s5
    have H5 : Below w.heap.size w w5 := bthen (by repeat' (first | (with_reducible exact Below.refl _ _) | (with_reducible assumption) | (with_reducible refine bdrawn ?_ _) | (with_reducible refine Below.alloc ?_ ?_ _) | (with_reducible refine Below.drew ?_) | (with_reducible refine Below.setCell ?_ ?_ _) | go_size)) h5 (by go_size)
    have C5 := (bcell H5).1; have F5 := (bcell H5).2
    have P5 : Below w4.heap.size w4 w5 := bthen (by repeat' (first | (with_reducible exact Below.refl _ _) | (with_reducible assumption) | (with_reducible refine bdrawn ?_ _) | (with_reducible refine Below.alloc ?_ ?_ _) | (with_reducible refine Below.drew ?_) | (with_reducible refine Below.setCell ?_ ?_ _) | go_size)) h5 (by go_size)
    replace po := hide (po.out.below P5 (by omega))
    replace pr := hide (pr.out.below P5 (by omega))
    replace q := hide (q.out.below P5 (by omega))
    replace xo := hide (xo.out.below P5 (by omega))
    replace xr := hide (xr.out.below P5 (by omega))
    have g := hide (Owned.of_own o5)
    clear o5
    go_wp2_with fail
    refine (laws_eqBoolS _ _ _ _ _ _ _ (isBools_own g.out.1) (isBools_own q.out.1)).mono ?_
    rintro e w6 ⟨rfl, h6⟩
    have s6 := h6.size
    try simp only [World.size_alloc, World.size_setCell, World.size_drew, World.heap_drewN] at s6
    have H6 : Below w.heap.size w w6 := bthen (by repeat' (first | (with_reducible exact Below.refl _ _) | (with_reducible assumption) | (with_reducible refine bdrawn ?_ _) | (with_reducible refine Below.alloc ?_ ?_ _) | (with_reducible refine Below.drew ?_) | (with_reducible refine Below.setCell ?_ ?_ _) | go_size)) h6 (by go_size)
    have C6 := (bcell H6).1; have F6 := (bcell H6).2
    have P6 : Below w5.heap.size w5 w6 := bthen (by repeat' (first | (with_reducible exact Below.refl _ _) | (with_reducible assumption) | (with_reducible refine bdrawn ?_ _) | (with_reducible refine Below.alloc ?_ ?_ _) | (with_reducible refine Below.drew ?_) | (with_reducible refine Below.setCell ?_ ?_ _) | go_size)) h6 (by go_size)
    replace po := hide (po.out.below P6 (by omega))
    replace pr := hide (pr.out.below P6 (by omega))
    replace q := hide (q.out.below P6 (by omega))
    replace xo := hide (xo.out.below P6 (by omega))
    replace xr := hide (xr.out.below P6 (by omega))
    replace g := hide (g.out.below P6 (by omega))
    go_wp2_with fail
    refine (laws_toBoolSS _ _ _ hs xss _ (HA.out.below H6 (Nat.le_refl _)) hn1 HALL.out).mono ?_
    rintro e w7 ⟨ya, yc, yg, ym, rfl, ya7, yb7, yo, yr, yl, h7⟩
    have s7 := h7.size
    try simp only [World.size_alloc, World.size_setCell, World.size_drew, World.heap_drewN] at s7
    have H7 : Below w.heap.size w w7 := bthen (by repeat' (first | (with_reducible exact Below.refl _ _) | (with_reducible assumption) | (with_reducible refine bdrawn ?_ _) | (with_reducible refine Below.alloc ?_ ?_ _) | (with_reducible refine Below.drew ?_) | (with_reducible refine Below.setCell ?_ ?_ _) | go_size)) h7 (by go_size)
    have C7 := (bcell H7).1; have F7 := (bcell H7).2
    have P7 : Below w6.heap.size w6 w7 := bthen (by repeat' (first | (with_reducible exact Below.refl _ _) | (with_reducible assumption) | (with_reducible refine bdrawn ?_ _) | (with_reducible refine Below.alloc ?_ ?_ _) | (with_reducible refine Below.drew ?_) | (with_reducible refine Below.setCell ?_ ?_ _) | go_size)) h7 (by go_size)
    replace po := hide (po.out.below P7 (by omega))
    replace pr := hide (pr.out.below P7 (by omega))
    replace q := hide (q.out.below P7 (by omega))
    replace xo := hide (xo.out.below P7 (by omega))
    replace xr := hide (xr.out.below P7 (by omega))
    replace g := hide (g.out.below P7 (by omega))
    have yo := hide yo; have yr := hide yr
    go_wp2_with fail
    refine (laws_eqBoolSS _ _ _ _ _ _ _ xss _ (isNest_own xo.out xr.out) (isNest_own yo.out yr.out)).mono ?_
    rintro e w8 ⟨rfl, h8⟩
    have s8 := h8.size
    try simp only [World.size_alloc, World.size_setCell, World.size_drew, World.heap_drewN] at s8
    have H8 : Below w.heap.size w w8 := bthen (by repeat' (first | (with_reducible exact Below.refl _ _) | (with_reducible assumption) | (with_reducible refine bdrawn ?_ _) | (with_reducible refine Below.alloc ?_ ?_ _) | (with_reducible refine Below.drew ?_) | (with_reducible refine Below.setCell ?_ ?_ _) | go_size)) h8 (by go_size)
    have C8 := (bcell H8).1; have F8 := (bcell H8).2
    have P8 : Below w7.heap.size w7 w8 := bthen (by repeat' (first | (with_reducible exact Below.refl _ _) | (with_reducible assumption) | (with_reducible refine bdrawn ?_ _) | (with_reducible refine Below.alloc ?_ ?_ _) | (with_reducible refine Below.drew ?_) | (with_reducible refine Below.setCell ?_ ?_ _) | go_size)) h8 (by go_size)
    replace po := hide (po.out.below P8 (by omega))
    replace pr := hide (pr.out.below P8 (by omega))
    replace q := hide (q.out.below P8 (by omega))
    replace xo := hide (xo.out.below P8 (by omega))
    replace xr := hide (xr.out.below P8 (by omega))
    replace g := hide (g.out.below P8 (by omega))
    replace yo := hide (yo.out.below P8 (by omega))
    replace yr := hide (yr.out.below P8 (by omega))
    go_wp2_with fail
    refine (mark_is _ _ _ _ _ _ _ _ (sumN hs) XL.out _ _ (by omega) (by omega) hn1 xo.out xr.out).mono ?_
    rintro e w9 ⟨rfl, o9, v9⟩
    have h9 := Save.below v9 (by omega)
    have s9 := h9.size
    try simp only [World.size_alloc, World.size_setCell, World.size_drew, World.heap_drewN] at s9
    have H9 : Below w.heap.size w w9 := bthen (by repeat' (first | (with_reducible exact Below.refl _ _) | (with_reducible assumption) | (with_reducible refine bdrawn ?_ _) | (with_reducible refine Below.alloc ?_ ?_ _) | (with_reducible refine Below.drew ?_) | (with_reducible refine Below.setCell ?_ ?_ _) | go_size)) h9 (by go_size)
    have C9 := (bcell H9).1; have F9 := (bcell H9).2
    replace po := hide (po.out.save v9 (by omega))
    replace pr := hide (pr.out.save v9 (by omega))
    replace q := hide (q.out.save v9 (by omega))
    replace xo := hide (xo.out.save v9 (by omega))
    clear xr o9
    replace g := hide (g.out.save v9 (by omega))
    replace yo := hide (yo.out.save v9 (by omega))
    replace yr := hide (yr.out.save v9 (by omega))
    go_wp2_with fail
    refine (laws_eqBoolS _ _ _ _ _ _ _ (isBools_own g.out.1) (isBools_own q.out.1)).mono ?_
    rintro e w10 ⟨rfl, h10⟩
    have s10 := h10.size
    try simp only [World.size_alloc, World.size_setCell, World.size_drew, World.heap_drewN] at s10
    have H10 : Below w.heap.size w w10 := bthen (by repeat' (first | (with_reducible exact Below.refl _ _) | (with_reducible assumption) | (with_reducible refine bdrawn ?_ _) | (with_reducible refine Below.alloc ?_ ?_ _) | (with_reducible refine Below.drew ?_) | (with_reducible refine Below.setCell ?_ ?_ _) | go_size)) h10 (by go_size)
    have C10 := (bcell H10).1; have F10 := (bcell H10).2
    have P10 : Below w9.heap.size w9 w10 := bthen (by repeat' (first | (with_reducible exact Below.refl _ _) | (with_reducible assumption) | (with_reducible refine bdrawn ?_ _) | (with_reducible refine Below.alloc ?_ ?_ _) | (with_reducible refine Below.drew ?_) | (with_reducible refine Below.setCell ?_ ?_ _) | go_size)) h10 (by go_size)
    replace po := hide (po.out.below P10 (by omega))
    replace pr := hide (pr.out.below P10 (by omega))
    replace q := hide (q.out.below P10 (by omega))
    replace xo := hide (xo.out.below P10 (by omega))
    replace g := hide (g.out.below P10 (by omega))
    replace yo := hide (yo.out.below P10 (by omega))
    replace yr := hide (yr.out.below P10 (by omega))
    go_wp2_with fail
    refine (laws_markBoolS _ _ _ _ _ _ _ _ (by omega) (by omega) g.out).mono ?_
    rintro e w11 ⟨rfl, o11, v11⟩
    have h11 := Save.below v11 (by omega)
    have s11 := h11.size
    try simp only [World.size_alloc, World.size_setCell, World.size_drew, World.heap_drewN] at s11
    have H11 : Below w.heap.size w w11 := bthen (by repeat' (first | (with_reducible exact Below.refl _ _) | (with_reducible assumption) | (with_reducible refine bdrawn ?_ _) | (with_reducible refine Below.alloc ?_ ?_ _) | (with_reducible refine Below.drew ?_) | (with_reducible refine Below.setCell ?_ ?_ _) | go_size)) h11 (by go_size)
    have C11 := (bcell H11).1; have F11 := (bcell H11).2
    replace po := hide (po.out.save v11 (by omega))
    replace pr := hide (pr.out.save v11 (by omega))
    replace q := hide (q.out.save v11 (by omega))
    replace xo := hide (xo.out.save v11 (by omega))
    replace g := hide o11
    replace yo := hide (yo.out.save v11 (by omega))
    replace yr := hide (yr.out.save v11 (by omega))
    go_wp2_with fail
    refine (laws_heldBoolS _ _ _ _ _ (by omega) (by omega) (isBools_own g.out.1)).mono ?_
    rintro e w12 ⟨rfl, h12⟩
    have s12 := h12.size
    try simp only [World.size_alloc, World.size_setCell, World.size_drew, World.heap_drewN] at s12
    have H12 : Below w.heap.size w w12 := bthen (by repeat' (first | (with_reducible exact Below.refl _ _) | (with_reducible assumption) | (with_reducible refine bdrawn ?_ _) | (with_reducible refine Below.alloc ?_ ?_ _) | (with_reducible refine Below.drew ?_) | (with_reducible refine Below.setCell ?_ ?_ _) | go_size)) h12 (by go_size)
    have C12 := (bcell H12).1; have F12 := (bcell H12).2
    have P12 : Below w11.heap.size w11 w12 := bthen (by repeat' (first | (with_reducible exact Below.refl _ _) | (with_reducible assumption) | (with_reducible refine bdrawn ?_ _) | (with_reducible refine Below.alloc ?_ ?_ _) | (with_reducible refine Below.drew ?_) | (with_reducible refine Below.setCell ?_ ?_ _) | go_size)) h12 (by go_size)
    replace po := hide (po.out.below P12 (by omega))
    replace pr := hide (pr.out.below P12 (by omega))
    replace q := hide (q.out.below P12 (by omega))
    replace xo := hide (xo.out.below P12 (by omega))
    replace g := hide (g.out.below P12 (by omega))
    replace yo := hide (yo.out.below P12 (by omega))
    replace yr := hide (yr.out.below P12 (by omega))
    go_wp2_with fail
    refine (laws_toBoolSS _ _ _ hs xss _ (HA.out.below H12 (Nat.le_refl _)) hn1 HALL.out).mono ?_
    rintro e w13 ⟨za, zc, zg, zm, rfl, za13, zb13, zo, zr, zl, h13⟩
    have s13 := h13.size
    try simp only [World.size_alloc, World.size_setCell, World.size_drew, World.heap_drewN] at s13
    have H13 : Below w.heap.size w w13 := bthen (by repeat' (first | (with_reducible exact Below.refl _ _) | (with_reducible assumption) | (with_reducible refine bdrawn ?_ _) | (with_reducible refine Below.alloc ?_ ?_ _) | (with_reducible refine Below.drew ?_) | (with_reducible refine Below.setCell ?_ ?_ _) | go_size)) h13 (by go_size)
    have C13 := (bcell H13).1; have F13 := (bcell H13).2
    have P13 : Below w12.heap.size w12 w13 := bthen (by repeat' (first | (with_reducible exact Below.refl _ _) | (with_reducible assumption) | (with_reducible refine bdrawn ?_ _) | (with_reducible refine Below.alloc ?_ ?_ _) | (with_reducible refine Below.drew ?_) | (with_reducible refine Below.setCell ?_ ?_ _) | go_size)) h13 (by go_size)
    replace po := hide (po.out.below P13 (by omega))
    replace pr := hide (pr.out.below P13 (by omega))
    replace q := hide (q.out.below P13 (by omega))
    replace xo := hide (xo.out.below P13 (by omega))
    replace g := hide (g.out.below P13 (by omega))
    replace yo := hide (yo.out.below P13 (by omega))
    replace yr := hide (yr.out.below P13 (by omega))
    have zo := hide zo; have zr := hide zr
    go_wp2_with fail
    refine (impl_CommonPass _ _ _ _ xss N _ (isNest_own zo.out zr.out) hn1 hN.out).mono ?_
    rintro e w14 ⟨a14, c14, rfl, o14, h14⟩
    have s14 := h14.size
    try simp only [World.size_alloc, World.size_setCell, World.size_drew, World.heap_drewN] at s14
    have H14 : Below w.heap.size w w14 := bthen (by repeat' (first | (with_reducible exact Below.refl _ _) | (with_reducible assumption) | (with_reducible refine bdrawn ?_ _) | (with_reducible refine Below.alloc ?_ ?_ _) | (with_reducible refine Below.drew ?_) | (with_reducible refine Below.setCell ?_ ?_ _) | go_size)) h14 (by go_size)
    have C14 := (bcell H14).1; have F14 := (bcell H14).2
    have P14 : Below w13.heap.size w13 w14 := bthen (by repeat' (first | (with_reducible exact Below.refl _ _) | (with_reducible assumption) | (with_reducible refine bdrawn ?_ _) | (with_reducible refine Below.alloc ?_ ?_ _) | (with_reducible refine Below.drew ?_) | (with_reducible refine Below.setCell ?_ ?_ _) | go_size)) h14 (by go_size)
    replace po := hide (po.out.below P14 (by omega))
    replace pr := hide (pr.out.below P14 (by omega))
    replace q := hide (q.out.below P14 (by omega))
    replace xo := hide (xo.out.below P14 (by omega))
    replace g := hide (g.out.below P14 (by omega))
    replace yo := hide (yo.out.below P14 (by omega))
    replace yr := hide (yr.out.below P14 (by omega))
    replace zo := hide (zo.out.below P14 (by omega))
    replace zr := hide (zr.out.below P14 (by omega))
    have u := hide (Owned.of_own o14)
    clear o14
    go_wp2_with fail
    refine (laws_eqBoolS _ _ _ _ _ _ _ (isBools_own u.out.1) (isBools_own q.out.1)).mono ?_
    rintro e w15 ⟨rfl, h15⟩
    have s15 := h15.size
    try simp only [World.size_alloc, World.size_setCell, World.size_drew, World.heap_drewN] at s15
    have H15 : Below w.heap.size w w15 := bthen (by repeat' (first | (with_reducible exact Below.refl _ _) | (with_reducible assumption) | (with_reducible refine bdrawn ?_ _) | (with_reducible refine Below.alloc ?_ ?_ _) | (with_reducible refine Below.drew ?_) | (with_reducible refine Below.setCell ?_ ?_ _) | go_size)) h15 (by go_size)
    have C15 := (bcell H15).1; have F15 := (bcell H15).2
    have P15 : Below w14.heap.size w14 w15 := bthen (by repeat' (first | (with_reducible exact Below.refl _ _) | (with_reducible assumption) | (with_reducible refine bdrawn ?_ _) | (with_reducible refine Below.alloc ?_ ?_ _) | (with_reducible refine Below.drew ?_) | (with_reducible refine Below.setCell ?_ ?_ _) | go_size)) h15 (by go_size)
    replace po := hide (po.out.below P15 (by omega))
    replace pr := hide (pr.out.below P15 (by omega))
    replace q := hide (q.out.below P15 (by omega))
    replace xo := hide (xo.out.below P15 (by omega))
    replace g := hide (g.out.below P15 (by omega))
    replace yo := hide (yo.out.below P15 (by omega))
    replace yr := hide (yr.out.below P15 (by omega))
    replace zo := hide (zo.out.below P15 (by omega))
    replace zr := hide (zr.out.below P15 (by omega))
    replace u := hide (u.out.below P15 (by omega))
    go_wp2_with fail
    refine (laws_heldBoolS _ _ _ _ _ (by omega) (by omega) (isBools_own g.out.1)).mono ?_
    rintro e w16 ⟨rfl, h16⟩
    have s16 := h16.size
    try simp only [World.size_alloc, World.size_setCell, World.size_drew, World.heap_drewN] at s16
    have H16 : Below w.heap.size w w16 := bthen (by repeat' (first | (with_reducible exact Below.refl _ _) | (with_reducible assumption) | (with_reducible refine bdrawn ?_ _) | (with_reducible refine Below.alloc ?_ ?_ _) | (with_reducible refine Below.drew ?_) | (with_reducible refine Below.setCell ?_ ?_ _) | go_size)) h16 (by go_size)
    have C16 := (bcell H16).1; have F16 := (bcell H16).2
    have P16 : Below w15.heap.size w15 w16 := bthen (by repeat' (first | (with_reducible exact Below.refl _ _) | (with_reducible assumption) | (with_reducible refine bdrawn ?_ _) | (with_reducible refine Below.alloc ?_ ?_ _) | (with_reducible refine Below.drew ?_) | (with_reducible refine Below.setCell ?_ ?_ _) | go_size)) h16 (by go_size)
    replace po := hide (po.out.below P16 (by omega))
    replace pr := hide (pr.out.below P16 (by omega))
    replace q := hide (q.out.below P16 (by omega))
    replace xo := hide (xo.out.below P16 (by omega))
    replace g := hide (g.out.below P16 (by omega))
    replace yo := hide (yo.out.below P16 (by omega))
    replace yr := hide (yr.out.below P16 (by omega))
    replace zo := hide (zo.out.below P16 (by omega))
    replace zr := hide (zr.out.below P16 (by omega))
    replace u := hide (u.out.below P16 (by omega))
    go_wp2_with fail
    go_ret
    exact ⟨rfl, by go_grown⟩

set_option maxRecDepth 100000 in
theorem FnExactCommonPass_lifted (os : Os) (started : os.Started) (H : Type) (enc : TypeId × Value → H) :
    ReturnsInHanded {} Try.checked os 6 .any (Rows.fnExactCommonPassSpec.pre6 enc Try.prog Try.f6 Rows.fnExactCommonPassRow.domain false) (Rows.fnExactCommonPassSpec.post enc Try.prog Try.f6 false true false false) := by
  refine returnsInHanded_of_change (C := Try.checked) try_own started (by kernel_rfl) Try.func6
    (ChangeSpec.witness6 (enc := enc) (C := Try.checked) false ⟨#[], #[.slice none 0 0], []⟩ 8 (by kernel_rfl) (by kernel_rfl) (by kernel_rfl) (by kernel_rfl)) ?_
  intro W base args ds gs before hval0 hW _ _
  have hval : ∀ (j : Nat) t v, Try.f6.params[j]? = some t → args[j]? = some v → Value.okWide Try.prog W .any base t v := hval0
  have hW' := hW
  obtain ⟨p, q, hA0, hV, rfl, hfz, hnd⟩ := hW
  have hA : DataW.TrodAll enc Try.prog W 0 (fun _ => true) true Try.f6.params.toList args.toList ds p := hA0
  rw [Try.params6] at hA hval
  obtain ⟨v0, vs0, d0, ds0, p0, q0, hargs, rfl, rfl, h0, r0⟩ := trodAll_cons hA
  obtain ⟨rfl, rfl, rfl⟩ := trodAll_nil r0
  obtain rfl : args = #[v0] := by cases args; simp_all
  obtain ⟨rfl, rfl⟩ := trodVars_none hV
  have k0 := h0
  have lt0 : ∀ x ∈ p0, x.block < W.heap.size := by obtain ⟨m, hm⟩ := k0; exact DataW.trod_lt m _ _ _ hm
  obtain ⟨b_x0, m_x0, l_x0, rfl⟩ := okWide_slice Try.underlying54 (hval 0 54 v0 rfl rfl)
  obtain ⟨fu0, h0⟩ := h0
  obtain ⟨a_x0, n_x0, c_x0, x0, e_x0, w_x0⟩ := isRowsB_of h0
  simp only [Value.cells, List.cons.injEq, and_true] at e_x0
  obtain ⟨q1, q2, q3⟩ : b_x0 = a_x0 ∧ m_x0 = n_x0 ∧ l_x0 = c_x0 := by simpa using e_x0
  replace q1 := q1.symm; replace q2 := q2.symm; replace q3 := q3.symm; subst q1 q2 q3
  clear hA0 hval0
  refine (FnExactCommonPass_walk a_x0 n_x0 c_x0 x0 W w_x0).mono fun e W' ⟨he, bel⟩ => ?_
  subst he
  exact ⟨_, rfl, _, _, _, [], _, [], hW', trodAll_mk1 (shut_bool Try.underlying4 _), (trodAll_cons_mk (Below.trod try_laidOut (by kernel_rfl) (of_decide_eq_true (by kernel_rfl)) k0 bel lt0) trodAll_mk0), rfl, bel.frame _, fun h => by cases h⟩

theorem FnExactCommonPass_holds : Rows.FnExactCommonPassSaid :=
  OpenClaim.holds_of_wide 6 Try.f6 rfl rfl rfl rfl rfl rfl rfl ⟨rfl, rfl, rfl, rfl, rfl⟩ rfl rfl rfl rfl rfl (by kernel_rfl) Try.func6 (by kernel_rfl)
    (of_decide_eq_true (by kernel_rfl)) (by unfold Func.isWrapper; rw [if_neg (of_decide_eq_false (by kernel_rfl))]; exact ⟨rfl, rfl⟩)
    (fun os started H enc _ => FnExactCommonPass_lifted os started H enc)
#print axioms FnExactCommonPass_holds
end Go.Proofs.Ytlaoeaecbdmebaa
