/- For every list of shares and every list of flags the program's PickTenant returns what the reference's returns, in memory of its own, and leaves both lists as they were. No condition. -/
import Derived.Test.YtlaoeaecbdmebaaPick
set_option linter.unusedSimpArgs false
set_option linter.unusedVariables false
namespace Go.Proofs.Ytlaoeaecbdmebaa
open Go.RowKit Go.ChangeShapes Go.WideShapes Go.ChangeAt Go.Joins Go.Deep
open Go.ChangeMaps (open_string shut_string)

set_option maxRecDepth 100000 in
set_option maxHeartbeats 4000000 in
theorem FnExactPickTenant_walk (a : Option Addr) (n c : Nat) (es : List Sh) (a2 : Option Addr) (n2 c2 : Nat) (ws : List Bool) (w : World) (ha : IsStructs shF 2 w a n c es) (hb : IsBools w a2 n2 c2 ws) :
    Calls Try.prog 9 #[.slice a n c, .slice a2 n2 c2] w fun e w' => e = .returned (.bool true) ∧ Below w.heap.size w w' := by
  have hm : c ≤ 9223372036854775807 := ha.2.2.1
  have hc := ha.2.1
  have hm2 : c2 ≤ 9223372036854775807 := hb.2.2.1
  have hc2 := hb.2.1
  by_cases hs2 : n2 ≤ 1048576
  · by_cases hs : n ≤ 1048576
    · have HA := hide ha; have HB := hide hb
      clear ha hb
      have g9 : (0 : Int) ≤ 1048576 - (n : Int) := by omega
      go_enter Try.func9, Try.ntmps9
      go_wp2_with fail
      refine (laws_szShareS _ _ _ _ _ (by omega) (by omega) (by omega)).mono ?_
      rintro e w1 ⟨rfl, h1⟩
      have s1 := h1.size
      try simp only [World.size_alloc, World.size_setCell, World.size_drew, World.heap_drewN] at s1
      have H1 : Below w.heap.size w w1 := bthen (by go_grown) h1 (by go_size)
      have C1 := (bcell H1).1; have F1 := (bcell H1).2
      go_wp2_with fail
      refine (laws_toShareS _ _ _ es _ (HA.out.below H1 (Nat.le_refl _)) hs).mono ?_
      rintro e w2 ⟨a2, c2, rfl, o2, h2⟩
      have s2 := h2.size
      try simp only [World.size_alloc, World.size_setCell, World.size_drew, World.heap_drewN] at s2
      have H2 : Below w.heap.size w w2 := bthen (by go_grown) h2 (by go_size)
      have C2 := (bcell H2).1; have F2 := (bcell H2).2
      have p := hide (Owned.of_own o2)
      clear o2
      go_wp2_with fail
      refine (laws_toBoolS _ _ _ ws _ (HB.out.below H2 (Nat.le_refl _)) hs2).mono ?_
      rintro e w3 ⟨a3, c3, rfl, o3, h3⟩
      have s3 := h3.size
      try simp only [World.size_alloc, World.size_setCell, World.size_drew, World.heap_drewN] at s3
      have H3 : Below w.heap.size w w3 := bthen (by go_grown) h3 (by go_size)
      have C3 := (bcell H3).1; have F3 := (bcell H3).2
      have P3 : Below w2.heap.size w2 w3 := bthen (by go_grown) h3 (by go_size)
      replace p := hide (p.out.below P3 (by omega))
      have q := hide (Owned.of_own o3)
      clear o3
      go_wp2_with fail
      refine (spec_PickTenant_n _ _ _ es _ _ _ ws _ (isStructs_own shF_len (by omega) p.out.1) (isBools_own q.out.1) (by omega) (by omega)).mono ?_
      rintro e w4 ⟨ar, cr, rfl, o4, h4⟩
      have s4 := h4.size
      try simp only [World.size_alloc, World.size_setCell, World.size_drew, World.heap_drewN] at s4
      have H4 : Below w.heap.size w w4 := bthen (by go_grown) h4 (by go_size)
      have C4 := (bcell H4).1; have F4 := (bcell H4).2
      have P4 : Below w3.heap.size w3 w4 := bthen (by go_grown) h4 (by go_size)
      replace p := hide (p.out.below P4 (by omega))
      replace q := hide (q.out.below P4 (by omega))
      have r := hide (Owned.of_own o4)
      clear o4
      go_wp2_with fail
      refine (laws_toShareS _ _ _ es _ (HA.out.below H4 (Nat.le_refl _)) hs).mono ?_
      rintro e w5 ⟨a5, c5, rfl, o5, h5⟩
      have s5 := h5.size
      try simp only [World.size_alloc, World.size_setCell, World.size_drew, World.heap_drewN] at s5
      have H5 : Below w.heap.size w w5 := bthen (by go_grown) h5 (by go_size)
      have C5 := (bcell H5).1; have F5 := (bcell H5).2
      have P5 : Below w4.heap.size w4 w5 := bthen (by go_grown) h5 (by go_size)
      replace p := hide (p.out.below P5 (by omega))
      replace q := hide (q.out.below P5 (by omega))
      replace r := hide (r.out.below P5 (by omega))
      have x := hide (Owned.of_own o5)
      clear o5
      go_wp2_with fail
      refine (laws_toBoolS _ _ _ ws _ (HB.out.below H5 (Nat.le_refl _)) hs2).mono ?_
      rintro e w6 ⟨a6, c6, rfl, o6, h6⟩
      have s6 := h6.size
      try simp only [World.size_alloc, World.size_setCell, World.size_drew, World.heap_drewN] at s6
      have H6 : Below w.heap.size w w6 := bthen (by go_grown) h6 (by go_size)
      have C6 := (bcell H6).1; have F6 := (bcell H6).2
      have P6 : Below w5.heap.size w5 w6 := bthen (by go_grown) h6 (by go_size)
      replace p := hide (p.out.below P6 (by omega))
      replace q := hide (q.out.below P6 (by omega))
      replace r := hide (r.out.below P6 (by omega))
      replace x := hide (x.out.below P6 (by omega))
      have y := hide (Owned.of_own o6)
      clear o6
      go_wp2_with fail
      refine (impl_PickTenant_n _ _ _ es _ _ _ ws _ (isStructs_own shF_len (by omega) x.out.1) (isBools_own y.out.1) (by omega) (by omega)).mono ?_
      rintro e w7 ⟨ag, cg, rfl, o7, h7⟩
      have s7 := h7.size
      try simp only [World.size_alloc, World.size_setCell, World.size_drew, World.heap_drewN] at s7
      have H7 : Below w.heap.size w w7 := bthen (by go_grown) h7 (by go_size)
      have C7 := (bcell H7).1; have F7 := (bcell H7).2
      have P7 : Below w6.heap.size w6 w7 := bthen (by go_grown) h7 (by go_size)
      replace p := hide (p.out.below P7 (by omega))
      replace q := hide (q.out.below P7 (by omega))
      replace r := hide (r.out.below P7 (by omega))
      replace x := hide (x.out.below P7 (by omega))
      replace y := hide (y.out.below P7 (by omega))
      have g := hide (Owned.of_own o7)
      clear o7
      go_wp2_with fail
      refine (laws_eqShareS _ _ _ _ _ _ _ (isStructs_own shF_len (by omega) g.out.1) (isStructs_own shF_len (by omega) r.out.1)).mono ?_
      rintro e w8 ⟨rfl, h8⟩
      have s8 := h8.size
      try simp only [World.size_alloc, World.size_setCell, World.size_drew, World.heap_drewN] at s8
      have H8 : Below w.heap.size w w8 := bthen (by go_grown) h8 (by go_size)
      have C8 := (bcell H8).1; have F8 := (bcell H8).2
      have P8 : Below w7.heap.size w7 w8 := bthen (by go_grown) h8 (by go_size)
      replace p := hide (p.out.below P8 (by omega))
      replace q := hide (q.out.below P8 (by omega))
      replace r := hide (r.out.below P8 (by omega))
      replace x := hide (x.out.below P8 (by omega))
      replace y := hide (y.out.below P8 (by omega))
      replace g := hide (g.out.below P8 (by omega))
      go_wp2_with fail
      refine (laws_toShareS _ _ _ es _ (HA.out.below H8 (Nat.le_refl _)) hs).mono ?_
      rintro e w9 ⟨a9, c9, rfl, o9, h9⟩
      have s9 := h9.size
      try simp only [World.size_alloc, World.size_setCell, World.size_drew, World.heap_drewN] at s9
      have H9 : Below w.heap.size w w9 := bthen (by go_grown) h9 (by go_size)
      have C9 := (bcell H9).1; have F9 := (bcell H9).2
      have P9 : Below w8.heap.size w8 w9 := bthen (by go_grown) h9 (by go_size)
      replace p := hide (p.out.below P9 (by omega))
      replace q := hide (q.out.below P9 (by omega))
      replace r := hide (r.out.below P9 (by omega))
      replace x := hide (x.out.below P9 (by omega))
      replace y := hide (y.out.below P9 (by omega))
      replace g := hide (g.out.below P9 (by omega))
      have x2 := hide (Owned.of_own o9)
      clear o9
      go_wp2_with fail
      refine (laws_eqShareS _ _ _ _ _ _ _ (isStructs_own shF_len (by omega) x.out.1) (isStructs_own shF_len (by omega) x2.out.1)).mono ?_
      rintro e w10 ⟨rfl, h10⟩
      have s10 := h10.size
      try simp only [World.size_alloc, World.size_setCell, World.size_drew, World.heap_drewN] at s10
      have H10 : Below w.heap.size w w10 := bthen (by go_grown) h10 (by go_size)
      have C10 := (bcell H10).1; have F10 := (bcell H10).2
      have P10 : Below w9.heap.size w9 w10 := bthen (by go_grown) h10 (by go_size)
      replace p := hide (p.out.below P10 (by omega))
      replace q := hide (q.out.below P10 (by omega))
      replace r := hide (r.out.below P10 (by omega))
      replace x := hide (x.out.below P10 (by omega))
      replace y := hide (y.out.below P10 (by omega))
      replace g := hide (g.out.below P10 (by omega))
      replace x2 := hide (x2.out.below P10 (by omega))
      go_wp2_with fail
      refine (laws_toBoolS _ _ _ ws _ (HB.out.below H10 (Nat.le_refl _)) hs2).mono ?_
      rintro e w11 ⟨a11, c11, rfl, o11, h11⟩
      have s11 := h11.size
      try simp only [World.size_alloc, World.size_setCell, World.size_drew, World.heap_drewN] at s11
      have H11 : Below w.heap.size w w11 := bthen (by go_grown) h11 (by go_size)
      have C11 := (bcell H11).1; have F11 := (bcell H11).2
      have P11 : Below w10.heap.size w10 w11 := bthen (by go_grown) h11 (by go_size)
      replace p := hide (p.out.below P11 (by omega))
      replace q := hide (q.out.below P11 (by omega))
      replace r := hide (r.out.below P11 (by omega))
      replace x := hide (x.out.below P11 (by omega))
      replace y := hide (y.out.below P11 (by omega))
      replace g := hide (g.out.below P11 (by omega))
      replace x2 := hide (x2.out.below P11 (by omega))
      have y2 := hide (Owned.of_own o11)
      clear o11
      go_wp2_with fail
      refine (laws_eqBoolS _ _ _ _ _ _ _ (isBools_own y.out.1) (isBools_own y2.out.1)).mono ?_
      rintro e w12 ⟨rfl, h12⟩
      have s12 := h12.size
      try simp only [World.size_alloc, World.size_setCell, World.size_drew, World.heap_drewN] at s12
      have H12 : Below w.heap.size w w12 := bthen (by go_grown) h12 (by go_size)
      have C12 := (bcell H12).1; have F12 := (bcell H12).2
      have P12 : Below w11.heap.size w11 w12 := bthen (by go_grown) h12 (by go_size)
      replace p := hide (p.out.below P12 (by omega))
      replace q := hide (q.out.below P12 (by omega))
      replace r := hide (r.out.below P12 (by omega))
      replace x := hide (x.out.below P12 (by omega))
      replace y := hide (y.out.below P12 (by omega))
      replace g := hide (g.out.below P12 (by omega))
      replace x2 := hide (x2.out.below P12 (by omega))
      replace y2 := hide (y2.out.below P12 (by omega))
      go_wp2_with fail
      refine (laws_markShareS _ _ _ _ _ _ _ _ (by omega) hs x.out).mono ?_
      rintro e w13 ⟨rfl, o13, v13⟩
      have h13 := Save.below v13 (by omega)
      have s13 := h13.size
      try simp only [World.size_alloc, World.size_setCell, World.size_drew, World.heap_drewN] at s13
      have H13 : Below w.heap.size w w13 := bthen (by go_grown) h13 (by go_size)
      have C13 := (bcell H13).1; have F13 := (bcell H13).2
      replace p := hide (p.out.save v13 (by omega))
      replace q := hide (q.out.save v13 (by omega))
      replace r := hide (r.out.save v13 (by omega))
      replace x := hide o13
      replace y := hide (y.out.save v13 (by omega))
      replace g := hide (g.out.save v13 (by omega))
      replace x2 := hide (x2.out.save v13 (by omega))
      replace y2 := hide (y2.out.save v13 (by omega))
      go_wp2_with fail
      refine (laws_markBoolS _ _ _ _ _ _ _ _ (by omega) hs2 y.out).mono ?_
      rintro e w14 ⟨rfl, o14, v14⟩
      have h14 := Save.below v14 (by omega)
      have s14 := h14.size
      try simp only [World.size_alloc, World.size_setCell, World.size_drew, World.heap_drewN] at s14
      have H14 : Below w.heap.size w w14 := bthen (by go_grown) h14 (by go_size)
      have C14 := (bcell H14).1; have F14 := (bcell H14).2
      replace p := hide (p.out.save v14 (by omega))
      replace q := hide (q.out.save v14 (by omega))
      replace r := hide (r.out.save v14 (by omega))
      replace x := hide (x.out.save v14 (by omega))
      replace y := hide o14
      replace g := hide (g.out.save v14 (by omega))
      replace x2 := hide (x2.out.save v14 (by omega))
      replace y2 := hide (y2.out.save v14 (by omega))
      have h9 : (0 : Int) ≤ (n2 : Int) := by omega
      have h8 : (0 : Int) ≤ (n : Int) := by omega
      go_wp2_with fail
      refine (laws_eqShareS _ _ _ _ _ _ _ (isStructs_own shF_len (by omega) g.out.1) (isStructs_own shF_len (by omega) r.out.1)).mono ?_
      rintro e w15 ⟨rfl, h15⟩
      have s15 := h15.size
      try simp only [World.size_alloc, World.size_setCell, World.size_drew, World.heap_drewN] at s15
      have H15 : Below w.heap.size w w15 := bthen (by go_grown) h15 (by go_size)
      have C15 := (bcell H15).1; have F15 := (bcell H15).2
      have P15 : Below w14.heap.size w14 w15 := bthen (by go_grown) h15 (by go_size)
      replace p := hide (p.out.below P15 (by omega))
      replace q := hide (q.out.below P15 (by omega))
      replace r := hide (r.out.below P15 (by omega))
      replace x := hide (x.out.below P15 (by omega))
      replace y := hide (y.out.below P15 (by omega))
      replace g := hide (g.out.below P15 (by omega))
      replace x2 := hide (x2.out.below P15 (by omega))
      replace y2 := hide (y2.out.below P15 (by omega))
      go_wp2_with fail
      refine (laws_markShareS _ _ _ _ _ _ _ _ (by omega) hs g.out).mono ?_
      rintro e w16 ⟨rfl, o16, v16⟩
      have h16 := Save.below v16 (by omega)
      have s16 := h16.size
      try simp only [World.size_alloc, World.size_setCell, World.size_drew, World.heap_drewN] at s16
      have H16 : Below w.heap.size w w16 := bthen (by go_grown) h16 (by go_size)
      have C16 := (bcell H16).1; have F16 := (bcell H16).2
      replace p := hide (p.out.save v16 (by omega))
      replace q := hide (q.out.save v16 (by omega))
      replace r := hide (r.out.save v16 (by omega))
      replace x := hide (x.out.save v16 (by omega))
      replace y := hide (y.out.save v16 (by omega))
      replace g := hide o16
      replace x2 := hide (x2.out.save v16 (by omega))
      replace y2 := hide (y2.out.save v16 (by omega))
      go_wp2_with fail
      refine (laws_heldShareS _ _ _ _ _ (by omega) hs (isStructs_own shF_len (by omega) g.out.1)).mono ?_
      rintro e w17 ⟨rfl, h17⟩
      have s17 := h17.size
      try simp only [World.size_alloc, World.size_setCell, World.size_drew, World.heap_drewN] at s17
      have H17 : Below w.heap.size w w17 := bthen (by go_grown) h17 (by go_size)
      have C17 := (bcell H17).1; have F17 := (bcell H17).2
      have P17 : Below w16.heap.size w16 w17 := bthen (by go_grown) h17 (by go_size)
      replace p := hide (p.out.below P17 (by omega))
      replace q := hide (q.out.below P17 (by omega))
      replace r := hide (r.out.below P17 (by omega))
      replace x := hide (x.out.below P17 (by omega))
      replace y := hide (y.out.below P17 (by omega))
      replace g := hide (g.out.below P17 (by omega))
      replace x2 := hide (x2.out.below P17 (by omega))
      replace y2 := hide (y2.out.below P17 (by omega))
      go_wp2_with fail
      refine (laws_toShareS _ _ _ es _ (HA.out.below H17 (Nat.le_refl _)) hs).mono ?_
      rintro e w18 ⟨a18, c18, rfl, o18, h18⟩
      have s18 := h18.size
      try simp only [World.size_alloc, World.size_setCell, World.size_drew, World.heap_drewN] at s18
      have H18 : Below w.heap.size w w18 := bthen (by go_grown) h18 (by go_size)
      have C18 := (bcell H18).1; have F18 := (bcell H18).2
      have P18 : Below w17.heap.size w17 w18 := bthen (by go_grown) h18 (by go_size)
      replace p := hide (p.out.below P18 (by omega))
      replace q := hide (q.out.below P18 (by omega))
      replace r := hide (r.out.below P18 (by omega))
      replace x := hide (x.out.below P18 (by omega))
      replace y := hide (y.out.below P18 (by omega))
      replace g := hide (g.out.below P18 (by omega))
      replace x2 := hide (x2.out.below P18 (by omega))
      replace y2 := hide (y2.out.below P18 (by omega))
      have p3 := hide (Owned.of_own o18)
      clear o18
      go_wp2_with fail
      refine (laws_toBoolS _ _ _ ws _ (HB.out.below H18 (Nat.le_refl _)) hs2).mono ?_
      rintro e w19 ⟨a19, c19, rfl, o19, h19⟩
      have s19 := h19.size
      try simp only [World.size_alloc, World.size_setCell, World.size_drew, World.heap_drewN] at s19
      have H19 : Below w.heap.size w w19 := bthen (by go_grown) h19 (by go_size)
      have C19 := (bcell H19).1; have F19 := (bcell H19).2
      have P19 : Below w18.heap.size w18 w19 := bthen (by go_grown) h19 (by go_size)
      replace p := hide (p.out.below P19 (by omega))
      replace q := hide (q.out.below P19 (by omega))
      replace r := hide (r.out.below P19 (by omega))
      replace x := hide (x.out.below P19 (by omega))
      replace y := hide (y.out.below P19 (by omega))
      replace g := hide (g.out.below P19 (by omega))
      replace x2 := hide (x2.out.below P19 (by omega))
      replace y2 := hide (y2.out.below P19 (by omega))
      replace p3 := hide (p3.out.below P19 (by omega))
      have q3 := hide (Owned.of_own o19)
      clear o19
      go_wp2_with fail
      refine (impl_PickTenant_n _ _ _ es _ _ _ ws _ (isStructs_own shF_len (by omega) p3.out.1) (isBools_own q3.out.1) (by omega) (by omega)).mono ?_
      rintro e w20 ⟨ah, ch, rfl, o20, h20⟩
      have s20 := h20.size
      try simp only [World.size_alloc, World.size_setCell, World.size_drew, World.heap_drewN] at s20
      have H20 : Below w.heap.size w w20 := bthen (by go_grown) h20 (by go_size)
      have C20 := (bcell H20).1; have F20 := (bcell H20).2
      have P20 : Below w19.heap.size w19 w20 := bthen (by go_grown) h20 (by go_size)
      replace p := hide (p.out.below P20 (by omega))
      replace q := hide (q.out.below P20 (by omega))
      replace r := hide (r.out.below P20 (by omega))
      replace x := hide (x.out.below P20 (by omega))
      replace y := hide (y.out.below P20 (by omega))
      replace g := hide (g.out.below P20 (by omega))
      replace x2 := hide (x2.out.below P20 (by omega))
      replace y2 := hide (y2.out.below P20 (by omega))
      replace p3 := hide (p3.out.below P20 (by omega))
      replace q3 := hide (q3.out.below P20 (by omega))
      have h := hide (Owned.of_own o20)
      clear o20
      go_wp2_with fail
      refine (laws_eqShareS _ _ _ _ _ _ _ (isStructs_own shF_len (by omega) h.out.1) (isStructs_own shF_len (by omega) r.out.1)).mono ?_
      rintro e w21 ⟨rfl, h21⟩
      have s21 := h21.size
      try simp only [World.size_alloc, World.size_setCell, World.size_drew, World.heap_drewN] at s21
      have H21 : Below w.heap.size w w21 := bthen (by go_grown) h21 (by go_size)
      have C21 := (bcell H21).1; have F21 := (bcell H21).2
      have P21 : Below w20.heap.size w20 w21 := bthen (by go_grown) h21 (by go_size)
      replace p := hide (p.out.below P21 (by omega))
      replace q := hide (q.out.below P21 (by omega))
      replace r := hide (r.out.below P21 (by omega))
      replace x := hide (x.out.below P21 (by omega))
      replace y := hide (y.out.below P21 (by omega))
      replace g := hide (g.out.below P21 (by omega))
      replace x2 := hide (x2.out.below P21 (by omega))
      replace y2 := hide (y2.out.below P21 (by omega))
      replace p3 := hide (p3.out.below P21 (by omega))
      replace q3 := hide (q3.out.below P21 (by omega))
      replace h := hide (h.out.below P21 (by omega))
      go_wp2_with fail
      refine (laws_heldShareS _ _ _ _ _ (by omega) hs (isStructs_own shF_len (by omega) g.out.1)).mono ?_
      rintro e w22 ⟨rfl, h22⟩
      have s22 := h22.size
      try simp only [World.size_alloc, World.size_setCell, World.size_drew, World.heap_drewN] at s22
      have H22 : Below w.heap.size w w22 := bthen (by go_grown) h22 (by go_size)
      have C22 := (bcell H22).1; have F22 := (bcell H22).2
      have P22 : Below w21.heap.size w21 w22 := bthen (by go_grown) h22 (by go_size)
      replace p := hide (p.out.below P22 (by omega))
      replace q := hide (q.out.below P22 (by omega))
      replace r := hide (r.out.below P22 (by omega))
      replace x := hide (x.out.below P22 (by omega))
      replace y := hide (y.out.below P22 (by omega))
      replace g := hide (g.out.below P22 (by omega))
      replace x2 := hide (x2.out.below P22 (by omega))
      replace y2 := hide (y2.out.below P22 (by omega))
      replace p3 := hide (p3.out.below P22 (by omega))
      replace q3 := hide (q3.out.below P22 (by omega))
      replace h := hide (h.out.below P22 (by omega))
      go_wp2_with fail
      go_ret
      exact ⟨rfl, by go_grown⟩
    · go_enter Try.func9, Try.ntmps9
      go_wp2_with fail
      refine (laws_szShareS_no _ _ _ _ _ (by omega) (by omega) (by omega) ⟨hc, hm⟩).mono ?_
      rintro e w1 ⟨rfl, h1⟩
      go_wp2_with fail
      go_ret
      exact ⟨rfl, bthen (by go_grown) h1 (by go_size)⟩
  · go_enter Try.func9, Try.ntmps9
    go_wp2_with fail
    go_ret
    exact ⟨rfl, by go_grown⟩

set_option maxRecDepth 100000 in
theorem FnExactPickTenant_lifted (os : Os) (started : os.Started) (H : Type) (enc : TypeId × Value → H) :
    ReturnsInHanded {} Try.checked os 9 .any (Rows.fnExactPickTenantSpec.pre6 enc Try.prog Try.f9 Rows.fnExactPickTenantRow.domain false) (Rows.fnExactPickTenantSpec.post enc Try.prog Try.f9 false true false false) := by
  refine returnsInHanded_of_change (C := Try.checked) try_own started (by kernel_rfl) Try.func9
    (ChangeSpec.witness6 (enc := enc) (C := Try.checked) false ⟨#[], #[.slice none 0 0, .slice none 0 0], []⟩ 8 (by kernel_rfl) (by kernel_rfl) (by kernel_rfl) (by kernel_rfl)) ?_
  intro W base args ds gs before hval0 hW _ _
  have hval : ∀ (j : Nat) t v, Try.f9.params[j]? = some t → args[j]? = some v → Value.okWide Try.prog W .any base t v := hval0
  have hW' := hW
  obtain ⟨p, q, hA0, hV, rfl, hfz, hnd⟩ := hW
  have hA : DataW.TrodAll enc Try.prog W 0 (fun _ => true) true Try.f9.params.toList args.toList ds p := hA0
  rw [Try.params9] at hA hval
  obtain ⟨v0, vs0, d0, ds0, p0, q0, hargs, rfl, rfl, h0, r0⟩ := trodAll_cons hA
  obtain ⟨v1, vs1, d1, ds1, p1, q1, rfl, rfl, rfl, h1, r1⟩ := trodAll_cons r0
  obtain ⟨rfl, rfl, rfl⟩ := trodAll_nil r1
  obtain rfl : args = #[v0, v1] := by cases args; simp_all
  obtain ⟨rfl, rfl⟩ := trodVars_none hV
  have k0 := h0
  have lt0 : ∀ x ∈ p0, x.block < W.heap.size := by obtain ⟨m, hm⟩ := k0; exact DataW.trod_lt m _ _ _ hm
  have k1 := h1
  have lt1 : ∀ x ∈ p1, x.block < W.heap.size := by obtain ⟨m, hm⟩ := k1; exact DataW.trod_lt m _ _ _ hm
  obtain ⟨b_x0, m_x0, l_x0, rfl⟩ := okWide_slice Try.underlying69 (hval 0 69 v0 rfl rfl)
  obtain ⟨fu0, h0⟩ := h0
  obtain ⟨a_x0, n_x0, c_x0, x0, e_x0, w_x0⟩ := isShares_of h0
  obtain ⟨b_x1, m_x1, l_x1, rfl⟩ := okWide_slice Try.underlying56 (hval 1 56 v1 rfl rfl)
  obtain ⟨fu1, h1⟩ := h1
  obtain ⟨a_x1, n_x1, c_x1, x1, e_x1, w_x1⟩ := isBools_of Try.underlying56 Try.underlying4 (by kernel_rfl) h1
  simp only [Value.cells, List.cons.injEq, and_true] at e_x0
  obtain ⟨q1, q2, q3⟩ : b_x0 = a_x0 ∧ m_x0 = n_x0 ∧ l_x0 = c_x0 := by simpa using e_x0
  replace q1 := q1.symm; replace q2 := q2.symm; replace q3 := q3.symm; subst q1 q2 q3
  simp only [Value.cells, List.cons.injEq, and_true] at e_x1
  obtain ⟨q1, q2, q3⟩ : b_x1 = a_x1 ∧ m_x1 = n_x1 ∧ l_x1 = c_x1 := by simpa using e_x1
  replace q1 := q1.symm; replace q2 := q2.symm; replace q3 := q3.symm; subst q1 q2 q3
  clear hA0 hval0
  refine (FnExactPickTenant_walk a_x0 n_x0 c_x0 x0 a_x1 n_x1 c_x1 x1 W w_x0 w_x1).mono fun e W' ⟨he, bel⟩ => ?_
  subst he
  exact ⟨_, rfl, _, _, _, [], _, [], hW', trodAll_mk1 (shut_bool Try.underlying4 _), (trodAll_cons_mk (Below.trod try_laidOut (by kernel_rfl) (of_decide_eq_true (by kernel_rfl)) k0 bel lt0) (trodAll_cons_mk (Below.trod try_laidOut (by kernel_rfl) (of_decide_eq_true (by kernel_rfl)) k1 bel lt1) trodAll_mk0)), rfl, bel.frame _, fun h => by cases h⟩

theorem FnExactPickTenant_holds : Rows.FnExactPickTenantSaid :=
  OpenClaim.holds_of_wide 9 Try.f9 rfl rfl rfl rfl rfl rfl rfl ⟨rfl, rfl, rfl, rfl, rfl⟩ rfl rfl rfl rfl rfl (by kernel_rfl) Try.func9 (by kernel_rfl)
    (of_decide_eq_true (by kernel_rfl)) (by unfold Func.isWrapper; rw [if_neg (of_decide_eq_false (by kernel_rfl))]; exact ⟨rfl, rfl⟩)
    (fun os started H enc _ => FnExactPickTenant_lifted os started H enc)
#print axioms FnExactPickTenant_holds
end Go.Proofs.Ytlaoeaecbdmebaa
