/- For every list of entries, every line and every code the program's ErrorAdd returns what the reference's returns, in memory of its own, and leaves the list as it was. No condition. -/
import Derived.Test.YtojgckmccagnjaaErrAdd
set_option linter.unusedSimpArgs false
set_option linter.unusedVariables false
namespace Go.Proofs.Ytojgckmccagnjaa
open Go.RowKit Go.ChangeShapes Go.WideShapes Go.ChangeAt Go.Joins Go.Deep
open Go.ChangeMaps (open_string shut_string)

theorem addL_len_le (es : List En) (line code : Int) : (addL es line code).length ≤ es.length + 1 := by
  unfold addL
  split
  · split
    · unfold bumpAt; split <;> simp
    · split <;> simp <;> omega
  · omega
set_option maxRecDepth 100000 in
set_option maxHeartbeats 4000000 in
theorem FnExactErrorAdd_walk (a : Option Addr) (n c : Nat) (es : List En) (line code : Int) (w : World) (ha : IsStructs enF 3 w a n c es) :
    Calls Try.prog 3 #[.slice a n c, .int .i64 line, .int .i64 code] w fun e w' => e = .returned (.bool true) ∧ Below w.heap.size w w' := by
  have hm : c ≤ 9223372036854775807 := ha.2.2.1
  have hc := ha.2.1
  by_cases hs : n ≤ 1048576
  · by_cases hN6 : (addL es line code).length ≤ 1048576
    · obtain ⟨N, hN'⟩ : ∃ N, (addL es line code).length = N := ⟨_, rfl⟩
      have hNn : N ≤ 1048576 := by omega
      have hN := hide hN'
      have HA := hide ha
      clear ha hN' hN6
      have g9 : (0 : Int) ≤ 1048576 - (n : Int) := by omega
      have g8 : (0 : Int) ≤ (n : Int) := by omega
      have g7 : (0 : Int) ≤ (N : Int) := by omega
      go_enter Try.func3, Try.ntmps3
      go_wp2_with fail
      refine (laws_szErrorEntryS _ _ _ _ _ (by omega) (by omega) (by omega)).mono ?_
      rintro e w1 ⟨rfl, h1⟩
      have s1 := h1.size
      try simp only [World.size_alloc, World.size_setCell, World.size_drew, World.heap_drewN] at s1
      have H1 : Below w.heap.size w w1 := bthen (by repeat' (first | (with_reducible exact Below.refl _ _) | (with_reducible assumption) | (with_reducible refine bdrawn ?_ _) | (with_reducible refine Below.alloc ?_ ?_ _) | (with_reducible refine Below.drew ?_) | (with_reducible refine Below.setCell ?_ ?_ _) | go_size)) h1 (by go_size)
      have C1 := (bcell H1).1; have F1 := (bcell H1).2
      go_wp2_with fail
      refine (laws_toErrorEntryS _ _ _ es _ (HA.out.below H1 (Nat.le_refl _)) hs).mono ?_
      rintro e w2 ⟨a2, c2, rfl, o2, h2⟩
      have s2 := h2.size
      try simp only [World.size_alloc, World.size_setCell, World.size_drew, World.heap_drewN] at s2
      have H2 : Below w.heap.size w w2 := bthen (by repeat' (first | (with_reducible exact Below.refl _ _) | (with_reducible assumption) | (with_reducible refine bdrawn ?_ _) | (with_reducible refine Below.alloc ?_ ?_ _) | (with_reducible refine Below.drew ?_) | (with_reducible refine Below.setCell ?_ ?_ _) | go_size)) h2 (by go_size)
      have C2 := (bcell H2).1; have F2 := (bcell H2).2
      have p := hide (Owned.of_own o2)
      clear o2
      go_wp2_with fail
      refine (spec_ErrorAdd _ _ _ es _ _ N _ (isStructs_own enF_len (by omega) p.out.1) hs hN.out).mono ?_
      rintro e w3 ⟨ar, cr, rfl, o3, h3⟩
      have s3 := h3.size
      try simp only [World.size_alloc, World.size_setCell, World.size_drew, World.heap_drewN] at s3
      have H3 : Below w.heap.size w w3 := bthen (by repeat' (first | (with_reducible exact Below.refl _ _) | (with_reducible assumption) | (with_reducible refine bdrawn ?_ _) | (with_reducible refine Below.alloc ?_ ?_ _) | (with_reducible refine Below.drew ?_) | (with_reducible refine Below.setCell ?_ ?_ _) | go_size)) h3 (by go_size)
      have C3 := (bcell H3).1; have F3 := (bcell H3).2
      have P3 : Below w2.heap.size w2 w3 := bthen (by repeat' (first | (with_reducible exact Below.refl _ _) | (with_reducible assumption) | (with_reducible refine bdrawn ?_ _) | (with_reducible refine Below.alloc ?_ ?_ _) | (with_reducible refine Below.drew ?_) | (with_reducible refine Below.setCell ?_ ?_ _) | go_size)) h3 (by go_size)
      replace p := hide (p.out.below P3 (by omega))
      have r := hide (Owned.of_own o3)
      clear o3
      go_wp2_with fail
      refine (laws_toErrorEntryS _ _ _ es _ (HA.out.below H3 (Nat.le_refl _)) hs).mono ?_
      rintro e w4 ⟨a4, c4, rfl, o4, h4⟩
      have s4 := h4.size
      try simp only [World.size_alloc, World.size_setCell, World.size_drew, World.heap_drewN] at s4
      have H4 : Below w.heap.size w w4 := bthen (by repeat' (first | (with_reducible exact Below.refl _ _) | (with_reducible assumption) | (with_reducible refine bdrawn ?_ _) | (with_reducible refine Below.alloc ?_ ?_ _) | (with_reducible refine Below.drew ?_) | (with_reducible refine Below.setCell ?_ ?_ _) | go_size)) h4 (by go_size)
      have C4 := (bcell H4).1; have F4 := (bcell H4).2
      have P4 : Below w3.heap.size w3 w4 := bthen (by repeat' (first | (with_reducible exact Below.refl _ _) | (with_reducible assumption) | (with_reducible refine bdrawn ?_ _) | (with_reducible refine Below.alloc ?_ ?_ _) | (with_reducible refine Below.drew ?_) | (with_reducible refine Below.setCell ?_ ?_ _) | go_size)) h4 (by go_size)
      replace p := hide (p.out.below P4 (by omega))
      replace r := hide (r.out.below P4 (by omega))
      have x := hide (Owned.of_own o4)
      clear o4
      go_wp2_with fail
      refine (impl_ErrorAdd _ _ _ es _ _ N _ (isStructs_own enF_len (by omega) x.out.1) hs hN.out).mono ?_
      rintro e w5 ⟨ag, cg, rfl, o5, h5⟩
      have s5 := h5.size
      try simp only [World.size_alloc, World.size_setCell, World.size_drew, World.heap_drewN] at s5
      have H5 : Below w.heap.size w w5 := bthen (by repeat' (first | (with_reducible exact Below.refl _ _) | (with_reducible assumption) | (with_reducible refine bdrawn ?_ _) | (with_reducible refine Below.alloc ?_ ?_ _) | (with_reducible refine Below.drew ?_) | (with_reducible refine Below.setCell ?_ ?_ _) | go_size)) h5 (by go_size)
      have C5 := (bcell H5).1; have F5 := (bcell H5).2
      have P5 : Below w4.heap.size w4 w5 := bthen (by repeat' (first | (with_reducible exact Below.refl _ _) | (with_reducible assumption) | (with_reducible refine bdrawn ?_ _) | (with_reducible refine Below.alloc ?_ ?_ _) | (with_reducible refine Below.drew ?_) | (with_reducible refine Below.setCell ?_ ?_ _) | go_size)) h5 (by go_size)
      replace p := hide (p.out.below P5 (by omega))
      replace r := hide (r.out.below P5 (by omega))
      replace x := hide (x.out.below P5 (by omega))
      have g := hide (Owned.of_own o5)
      clear o5
      go_wp2_with fail
      refine (laws_eqErrorEntryS _ _ _ _ _ _ _ (isStructs_own enF_len (by omega) g.out.1) (isStructs_own enF_len (by omega) r.out.1)).mono ?_
      rintro e w6 ⟨rfl, h6⟩
      have s6 := h6.size
      try simp only [World.size_alloc, World.size_setCell, World.size_drew, World.heap_drewN] at s6
      have H6 : Below w.heap.size w w6 := bthen (by repeat' (first | (with_reducible exact Below.refl _ _) | (with_reducible assumption) | (with_reducible refine bdrawn ?_ _) | (with_reducible refine Below.alloc ?_ ?_ _) | (with_reducible refine Below.drew ?_) | (with_reducible refine Below.setCell ?_ ?_ _) | go_size)) h6 (by go_size)
      have C6 := (bcell H6).1; have F6 := (bcell H6).2
      have P6 : Below w5.heap.size w5 w6 := bthen (by repeat' (first | (with_reducible exact Below.refl _ _) | (with_reducible assumption) | (with_reducible refine bdrawn ?_ _) | (with_reducible refine Below.alloc ?_ ?_ _) | (with_reducible refine Below.drew ?_) | (with_reducible refine Below.setCell ?_ ?_ _) | go_size)) h6 (by go_size)
      replace p := hide (p.out.below P6 (by omega))
      replace r := hide (r.out.below P6 (by omega))
      replace x := hide (x.out.below P6 (by omega))
      replace g := hide (g.out.below P6 (by omega))
      go_wp2_with fail
      refine (laws_toErrorEntryS _ _ _ es _ (HA.out.below H6 (Nat.le_refl _)) hs).mono ?_
      rintro e w7 ⟨a7, c7, rfl, o7, h7⟩
      have s7 := h7.size
      try simp only [World.size_alloc, World.size_setCell, World.size_drew, World.heap_drewN] at s7
      have H7 : Below w.heap.size w w7 := bthen (by repeat' (first | (with_reducible exact Below.refl _ _) | (with_reducible assumption) | (with_reducible refine bdrawn ?_ _) | (with_reducible refine Below.alloc ?_ ?_ _) | (with_reducible refine Below.drew ?_) | (with_reducible refine Below.setCell ?_ ?_ _) | go_size)) h7 (by go_size)
      have C7 := (bcell H7).1; have F7 := (bcell H7).2
      have P7 : Below w6.heap.size w6 w7 := bthen (by repeat' (first | (with_reducible exact Below.refl _ _) | (with_reducible assumption) | (with_reducible refine bdrawn ?_ _) | (with_reducible refine Below.alloc ?_ ?_ _) | (with_reducible refine Below.drew ?_) | (with_reducible refine Below.setCell ?_ ?_ _) | go_size)) h7 (by go_size)
      replace p := hide (p.out.below P7 (by omega))
      replace r := hide (r.out.below P7 (by omega))
      replace x := hide (x.out.below P7 (by omega))
      replace g := hide (g.out.below P7 (by omega))
      have x2 := hide (Owned.of_own o7)
      clear o7
      go_wp2_with fail
      refine (laws_eqErrorEntryS _ _ _ _ _ _ _ (isStructs_own enF_len (by omega) x.out.1) (isStructs_own enF_len (by omega) x2.out.1)).mono ?_
      rintro e w8 ⟨rfl, h8⟩
      have s8 := h8.size
      try simp only [World.size_alloc, World.size_setCell, World.size_drew, World.heap_drewN] at s8
      have H8 : Below w.heap.size w w8 := bthen (by repeat' (first | (with_reducible exact Below.refl _ _) | (with_reducible assumption) | (with_reducible refine bdrawn ?_ _) | (with_reducible refine Below.alloc ?_ ?_ _) | (with_reducible refine Below.drew ?_) | (with_reducible refine Below.setCell ?_ ?_ _) | go_size)) h8 (by go_size)
      have C8 := (bcell H8).1; have F8 := (bcell H8).2
      have P8 : Below w7.heap.size w7 w8 := bthen (by repeat' (first | (with_reducible exact Below.refl _ _) | (with_reducible assumption) | (with_reducible refine bdrawn ?_ _) | (with_reducible refine Below.alloc ?_ ?_ _) | (with_reducible refine Below.drew ?_) | (with_reducible refine Below.setCell ?_ ?_ _) | go_size)) h8 (by go_size)
      replace p := hide (p.out.below P8 (by omega))
      replace r := hide (r.out.below P8 (by omega))
      replace x := hide (x.out.below P8 (by omega))
      replace g := hide (g.out.below P8 (by omega))
      replace x2 := hide (x2.out.below P8 (by omega))
      go_wp2_with fail
      refine (laws_markErrorEntryS _ _ _ _ _ _ _ _ (by omega) hs x.out).mono ?_
      rintro e w9 ⟨rfl, o9, v9⟩
      have h9 := Save.below v9 (by omega)
      have s9 := h9.size
      try simp only [World.size_alloc, World.size_setCell, World.size_drew, World.heap_drewN] at s9
      have H9 : Below w.heap.size w w9 := bthen (by repeat' (first | (with_reducible exact Below.refl _ _) | (with_reducible assumption) | (with_reducible refine bdrawn ?_ _) | (with_reducible refine Below.alloc ?_ ?_ _) | (with_reducible refine Below.drew ?_) | (with_reducible refine Below.setCell ?_ ?_ _) | go_size)) h9 (by go_size)
      have C9 := (bcell H9).1; have F9 := (bcell H9).2
      replace p := hide (p.out.save v9 (by omega))
      replace r := hide (r.out.save v9 (by omega))
      replace x := hide o9
      replace g := hide (g.out.save v9 (by omega))
      replace x2 := hide (x2.out.save v9 (by omega))
      go_wp2_with fail
      refine (laws_eqErrorEntryS _ _ _ _ _ _ _ (isStructs_own enF_len (by omega) g.out.1) (isStructs_own enF_len (by omega) r.out.1)).mono ?_
      rintro e w10 ⟨rfl, h10⟩
      have s10 := h10.size
      try simp only [World.size_alloc, World.size_setCell, World.size_drew, World.heap_drewN] at s10
      have H10 : Below w.heap.size w w10 := bthen (by repeat' (first | (with_reducible exact Below.refl _ _) | (with_reducible assumption) | (with_reducible refine bdrawn ?_ _) | (with_reducible refine Below.alloc ?_ ?_ _) | (with_reducible refine Below.drew ?_) | (with_reducible refine Below.setCell ?_ ?_ _) | go_size)) h10 (by go_size)
      have C10 := (bcell H10).1; have F10 := (bcell H10).2
      have P10 : Below w9.heap.size w9 w10 := bthen (by repeat' (first | (with_reducible exact Below.refl _ _) | (with_reducible assumption) | (with_reducible refine bdrawn ?_ _) | (with_reducible refine Below.alloc ?_ ?_ _) | (with_reducible refine Below.drew ?_) | (with_reducible refine Below.setCell ?_ ?_ _) | go_size)) h10 (by go_size)
      replace p := hide (p.out.below P10 (by omega))
      replace r := hide (r.out.below P10 (by omega))
      replace x := hide (x.out.below P10 (by omega))
      replace g := hide (g.out.below P10 (by omega))
      replace x2 := hide (x2.out.below P10 (by omega))
      go_wp2_with fail
      refine (laws_markErrorEntryS _ _ _ _ _ _ _ _ (by omega) (by omega) g.out).mono ?_
      rintro e w11 ⟨rfl, o11, v11⟩
      have h11 := Save.below v11 (by omega)
      have s11 := h11.size
      try simp only [World.size_alloc, World.size_setCell, World.size_drew, World.heap_drewN] at s11
      have H11 : Below w.heap.size w w11 := bthen (by repeat' (first | (with_reducible exact Below.refl _ _) | (with_reducible assumption) | (with_reducible refine bdrawn ?_ _) | (with_reducible refine Below.alloc ?_ ?_ _) | (with_reducible refine Below.drew ?_) | (with_reducible refine Below.setCell ?_ ?_ _) | go_size)) h11 (by go_size)
      have C11 := (bcell H11).1; have F11 := (bcell H11).2
      replace p := hide (p.out.save v11 (by omega))
      replace r := hide (r.out.save v11 (by omega))
      replace x := hide (x.out.save v11 (by omega))
      replace g := hide o11
      replace x2 := hide (x2.out.save v11 (by omega))
      go_wp2_with fail
      refine (laws_heldErrorEntryS _ _ _ _ _ (by omega) (by omega) (isStructs_own enF_len (by omega) g.out.1)).mono ?_
      rintro e w12 ⟨rfl, h12⟩
      have s12 := h12.size
      try simp only [World.size_alloc, World.size_setCell, World.size_drew, World.heap_drewN] at s12
      have H12 : Below w.heap.size w w12 := bthen (by repeat' (first | (with_reducible exact Below.refl _ _) | (with_reducible assumption) | (with_reducible refine bdrawn ?_ _) | (with_reducible refine Below.alloc ?_ ?_ _) | (with_reducible refine Below.drew ?_) | (with_reducible refine Below.setCell ?_ ?_ _) | go_size)) h12 (by go_size)
      have C12 := (bcell H12).1; have F12 := (bcell H12).2
      have P12 : Below w11.heap.size w11 w12 := bthen (by repeat' (first | (with_reducible exact Below.refl _ _) | (with_reducible assumption) | (with_reducible refine bdrawn ?_ _) | (with_reducible refine Below.alloc ?_ ?_ _) | (with_reducible refine Below.drew ?_) | (with_reducible refine Below.setCell ?_ ?_ _) | go_size)) h12 (by go_size)
      replace p := hide (p.out.below P12 (by omega))
      replace r := hide (r.out.below P12 (by omega))
      replace x := hide (x.out.below P12 (by omega))
      replace g := hide (g.out.below P12 (by omega))
      replace x2 := hide (x2.out.below P12 (by omega))
      go_wp2_with fail
      refine (laws_toErrorEntryS _ _ _ es _ (HA.out.below H12 (Nat.le_refl _)) hs).mono ?_
      rintro e w13 ⟨a13, c13, rfl, o13, h13⟩
      have s13 := h13.size
      try simp only [World.size_alloc, World.size_setCell, World.size_drew, World.heap_drewN] at s13
      have H13 : Below w.heap.size w w13 := bthen (by repeat' (first | (with_reducible exact Below.refl _ _) | (with_reducible assumption) | (with_reducible refine bdrawn ?_ _) | (with_reducible refine Below.alloc ?_ ?_ _) | (with_reducible refine Below.drew ?_) | (with_reducible refine Below.setCell ?_ ?_ _) | go_size)) h13 (by go_size)
      have C13 := (bcell H13).1; have F13 := (bcell H13).2
      have P13 : Below w12.heap.size w12 w13 := bthen (by repeat' (first | (with_reducible exact Below.refl _ _) | (with_reducible assumption) | (with_reducible refine bdrawn ?_ _) | (with_reducible refine Below.alloc ?_ ?_ _) | (with_reducible refine Below.drew ?_) | (with_reducible refine Below.setCell ?_ ?_ _) | go_size)) h13 (by go_size)
      replace p := hide (p.out.below P13 (by omega))
      replace r := hide (r.out.below P13 (by omega))
      replace x := hide (x.out.below P13 (by omega))
      replace g := hide (g.out.below P13 (by omega))
      replace x2 := hide (x2.out.below P13 (by omega))
      have p3 := hide (Owned.of_own o13)
      clear o13
      go_wp2_with fail
      refine (impl_ErrorAdd _ _ _ es _ _ N _ (isStructs_own enF_len (by omega) p3.out.1) hs hN.out).mono ?_
      rintro e w14 ⟨ah, ch, rfl, o14, h14⟩
      have s14 := h14.size
      try simp only [World.size_alloc, World.size_setCell, World.size_drew, World.heap_drewN] at s14
      have H14 : Below w.heap.size w w14 := bthen (by repeat' (first | (with_reducible exact Below.refl _ _) | (with_reducible assumption) | (with_reducible refine bdrawn ?_ _) | (with_reducible refine Below.alloc ?_ ?_ _) | (with_reducible refine Below.drew ?_) | (with_reducible refine Below.setCell ?_ ?_ _) | go_size)) h14 (by go_size)
      have C14 := (bcell H14).1; have F14 := (bcell H14).2
      have P14 : Below w13.heap.size w13 w14 := bthen (by repeat' (first | (with_reducible exact Below.refl _ _) | (with_reducible assumption) | (with_reducible refine bdrawn ?_ _) | (with_reducible refine Below.alloc ?_ ?_ _) | (with_reducible refine Below.drew ?_) | (with_reducible refine Below.setCell ?_ ?_ _) | go_size)) h14 (by go_size)
      replace p := hide (p.out.below P14 (by omega))
      replace r := hide (r.out.below P14 (by omega))
      replace x := hide (x.out.below P14 (by omega))
      replace g := hide (g.out.below P14 (by omega))
      replace x2 := hide (x2.out.below P14 (by omega))
      replace p3 := hide (p3.out.below P14 (by omega))
      have h := hide (Owned.of_own o14)
      clear o14
      go_wp2_with fail
      refine (laws_eqErrorEntryS _ _ _ _ _ _ _ (isStructs_own enF_len (by omega) h.out.1) (isStructs_own enF_len (by omega) r.out.1)).mono ?_
      rintro e w15 ⟨rfl, h15⟩
      have s15 := h15.size
      try simp only [World.size_alloc, World.size_setCell, World.size_drew, World.heap_drewN] at s15
      have H15 : Below w.heap.size w w15 := bthen (by repeat' (first | (with_reducible exact Below.refl _ _) | (with_reducible assumption) | (with_reducible refine bdrawn ?_ _) | (with_reducible refine Below.alloc ?_ ?_ _) | (with_reducible refine Below.drew ?_) | (with_reducible refine Below.setCell ?_ ?_ _) | go_size)) h15 (by go_size)
      have C15 := (bcell H15).1; have F15 := (bcell H15).2
      have P15 : Below w14.heap.size w14 w15 := bthen (by repeat' (first | (with_reducible exact Below.refl _ _) | (with_reducible assumption) | (with_reducible refine bdrawn ?_ _) | (with_reducible refine Below.alloc ?_ ?_ _) | (with_reducible refine Below.drew ?_) | (with_reducible refine Below.setCell ?_ ?_ _) | go_size)) h15 (by go_size)
      replace p := hide (p.out.below P15 (by omega))
      replace r := hide (r.out.below P15 (by omega))
      replace x := hide (x.out.below P15 (by omega))
      replace g := hide (g.out.below P15 (by omega))
      replace x2 := hide (x2.out.below P15 (by omega))
      replace p3 := hide (p3.out.below P15 (by omega))
      replace h := hide (h.out.below P15 (by omega))
      go_wp2_with fail
      refine (laws_heldErrorEntryS _ _ _ _ _ (by omega) (by omega) (isStructs_own enF_len (by omega) g.out.1)).mono ?_
      rintro e w16 ⟨rfl, h16⟩
      have s16 := h16.size
      try simp only [World.size_alloc, World.size_setCell, World.size_drew, World.heap_drewN] at s16
      have H16 : Below w.heap.size w w16 := bthen (by repeat' (first | (with_reducible exact Below.refl _ _) | (with_reducible assumption) | (with_reducible refine bdrawn ?_ _) | (with_reducible refine Below.alloc ?_ ?_ _) | (with_reducible refine Below.drew ?_) | (with_reducible refine Below.setCell ?_ ?_ _) | go_size)) h16 (by go_size)
      have C16 := (bcell H16).1; have F16 := (bcell H16).2
      have P16 : Below w15.heap.size w15 w16 := bthen (by repeat' (first | (with_reducible exact Below.refl _ _) | (with_reducible assumption) | (with_reducible refine bdrawn ?_ _) | (with_reducible refine Below.alloc ?_ ?_ _) | (with_reducible refine Below.drew ?_) | (with_reducible refine Below.setCell ?_ ?_ _) | go_size)) h16 (by go_size)
      replace p := hide (p.out.below P16 (by omega))
      replace r := hide (r.out.below P16 (by omega))
      replace x := hide (x.out.below P16 (by omega))
      replace g := hide (g.out.below P16 (by omega))
      replace x2 := hide (x2.out.below P16 (by omega))
      replace p3 := hide (p3.out.below P16 (by omega))
      replace h := hide (h.out.below P16 (by omega))
      go_wp2_with fail
      go_ret
      exact ⟨rfl, by go_grown⟩
    · exfalso
      have h1 := addL_len_le es line code
      cases hk : addOk es line code
      · rw [addL_no hk] at hN6; exact hN6 (by rw [ha.1]; exact hs)
      · have := errorsOk_len (addOk_ok hk); omega
  · go_enter Try.func3, Try.ntmps3
    go_wp2_with fail
    refine (laws_szErrorEntryS_no _ _ _ _ _ (by omega) (by omega) (by omega) ⟨hc, hm⟩).mono ?_
    rintro e w1 ⟨rfl, h1⟩
    go_wp2_with fail
    go_ret
    exact ⟨rfl, bthen (by go_grown) h1 (by go_size)⟩

set_option maxRecDepth 100000 in
theorem FnExactErrorAdd_lifted (os : Os) (started : os.Started) (H : Type) (enc : TypeId × Value → H) :
    ReturnsInHanded {} Try.checked os 3 .any (Rows.fnExactErrorAddSpec.pre6 enc Try.prog Try.f3 Rows.fnExactErrorAddRow.domain false) (Rows.fnExactErrorAddSpec.post enc Try.prog Try.f3 false true false false) := by
  refine returnsInHanded_of_change (C := Try.checked) try_own started (by kernel_rfl) Try.func3
    (ChangeSpec.witness6 (enc := enc) (C := Try.checked) false ⟨#[], #[.slice none 0 0, .int .i64 0, .int .i64 0], []⟩ 8 (by kernel_rfl) (by kernel_rfl) (by kernel_rfl) (by kernel_rfl)) ?_
  intro W base args ds gs before hval0 hW _ _
  have hval : ∀ (j : Nat) t v, Try.f3.params[j]? = some t → args[j]? = some v → Value.okWide Try.prog W .any base t v := hval0
  have hW' := hW
  obtain ⟨p, q, hA0, hV, rfl, hfz, hnd⟩ := hW
  have hA : DataW.TrodAll enc Try.prog W 0 (fun _ => true) true Try.f3.params.toList args.toList ds p := hA0
  rw [Try.params3] at hA hval
  obtain ⟨v0, vs0, d0, ds0, p0, q0, hargs, rfl, rfl, h0, r0⟩ := trodAll_cons hA
  obtain ⟨v1, vs1, d1, ds1, p1, q1, rfl, rfl, rfl, h1, r1⟩ := trodAll_cons r0
  obtain ⟨v2, vs2, d2, ds2, p2, q2, rfl, rfl, rfl, h2, r2⟩ := trodAll_cons r1
  obtain ⟨rfl, rfl, rfl⟩ := trodAll_nil r2
  obtain rfl : args = #[v0, v1, v2] := by cases args; simp_all
  obtain ⟨rfl, rfl⟩ := trodVars_none hV
  have k0 := h0
  have lt0 : ∀ x ∈ p0, x.block < W.heap.size := by obtain ⟨m, hm⟩ := k0; exact DataW.trod_lt m _ _ _ hm
  have k1 := h1
  have lt1 : ∀ x ∈ p1, x.block < W.heap.size := by obtain ⟨m, hm⟩ := k1; exact DataW.trod_lt m _ _ _ hm
  have k2 := h2
  have lt2 : ∀ x ∈ p2, x.block < W.heap.size := by obtain ⟨m, hm⟩ := k2; exact DataW.trod_lt m _ _ _ hm
  obtain ⟨b_x0, m_x0, l_x0, rfl⟩ := okWide_slice Try.underlying22 (hval 0 22 v0 rfl rfl)
  obtain ⟨fu0, h0⟩ := h0
  obtain ⟨a_x0, n_x0, c_x0, x0, e_x0, w_x0⟩ := isErrorEntrys_of h0
  obtain ⟨x1, rfl, rfl, rfl, w_x1⟩ := open_int Try.underlying3 (hval 1 3 v1 rfl rfl) h1
  obtain ⟨x2, rfl, rfl, rfl, w_x2⟩ := open_int Try.underlying3 (hval 2 3 v2 rfl rfl) h2
  simp only [Value.cells, List.cons.injEq, and_true] at e_x0
  obtain ⟨q1, q2, q3⟩ : b_x0 = a_x0 ∧ m_x0 = n_x0 ∧ l_x0 = c_x0 := by simpa using e_x0
  replace q1 := q1.symm; replace q2 := q2.symm; replace q3 := q3.symm; subst q1 q2 q3
  clear hA0 hval0
  refine (FnExactErrorAdd_walk a_x0 n_x0 c_x0 x0 x1 x2 W w_x0).mono fun e W' ⟨he, bel⟩ => ?_
  subst he
  exact ⟨_, rfl, _, _, _, [], _, [], hW', trodAll_mk1 (shut_bool Try.underlying4 _), (trodAll_cons_mk (Below.trod try_laidOut (by kernel_rfl) (of_decide_eq_true (by kernel_rfl)) k0 bel lt0) (trodAll_cons_mk (Below.trod try_laidOut (by kernel_rfl) (of_decide_eq_true (by kernel_rfl)) k1 bel lt1) (trodAll_cons_mk (Below.trod try_laidOut (by kernel_rfl) (of_decide_eq_true (by kernel_rfl)) k2 bel lt2) trodAll_mk0))), rfl, bel.frame _, fun h => by cases h⟩

theorem FnExactErrorAdd_holds : Rows.FnExactErrorAddSaid :=
  OpenClaim.holds_of_wide 3 Try.f3 rfl rfl rfl rfl rfl rfl rfl ⟨rfl, rfl, rfl, rfl, rfl⟩ rfl rfl rfl rfl rfl (by kernel_rfl) Try.func3 (by kernel_rfl)
    (of_decide_eq_true (by kernel_rfl)) (by unfold Func.isWrapper; rw [if_neg (of_decide_eq_false (by kernel_rfl))]; exact ⟨rfl, rfl⟩)
    (fun os started H enc _ => FnExactErrorAdd_lifted os started H enc)
#print axioms FnExactErrorAdd_holds
end Go.Proofs.Ytojgckmccagnjaa
