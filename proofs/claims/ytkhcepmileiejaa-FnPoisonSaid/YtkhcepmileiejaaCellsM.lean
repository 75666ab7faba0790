/- Arrays of cells: the laws' copy of an array, its comparison, its marks. -/
import Derived.Test.YtkhcepmileiejaaCellsL
set_option linter.unusedSimpArgs false
set_option linter.unusedVariables false
namespace Go.Proofs.Ytkhcepmileiejaa
open Go.RowKit Go.ChangeShapes Go.WideShapes Go.ChangeAt Go.Joins Go.Deep
open Go.ChangeMaps (open_string shut_string)
/-- An array of the call's own, that holds this. -/
def GotAr (w : World) (C : Con) (e : Ending) (w' : World) : Prop :=
  ∃ A : Ar, e = .returned (.agg #[.slice A.a A.n A.c, .slice A.ag.1.a A.ag.1.n A.ag.1.c, .slice A.ht.1.a A.ht.1.n A.ht.1.c]) ∧ OwnAr w.heap.size w'.heap.size w' A ∧ A.con = C ∧ Below w.heap.size w w'
theorem sum_of_con {es es' : List Cl} (h : es.map conC = es'.map conC) : (∀ e ∈ es, e.ws.length = e.h.n) → (∀ e ∈ es', e.ws.length = e.h.n) → sumC es = sumC es' := by
  intro h1 h2
  have key : ∀ (xs : List Cl), (∀ e ∈ xs, e.ws.length = e.h.n) → sumC xs = ((xs.map conC).map (fun p => p.1.length)).sum := by
    intro xs hx
    unfold sumC
    rw [List.map_map]
    congr 1
    apply List.map_congr_left
    intro e he
    exact (hx e he).symm
  rw [key es h1, key es' h2, h]
set_option maxRecDepth 100000 in
set_option maxHeartbeats 1000000 in
theorem laws_toArray (A : Ar) (w : World) (hA : IsAr w A) (ht : A.tot ≤ 1048576) :
    Calls Try.prog 13 #[.agg #[.slice A.a A.n A.c, .slice A.ag.1.a A.ag.1.n A.ag.1.c, .slice A.ht.1.a A.ht.1.n A.ht.1.c]] w (GotAr w A.con) := by
  obtain ⟨a, n, c, es, ⟨⟨a2, n2, c2⟩, z2⟩, ⟨⟨a3, n3, c3⟩, z3⟩⟩ := A
  obtain ⟨h4, h5, h6⟩ := hA
  simp only [Ar.tot] at h4 h5 h6 ht ⊢
  have hsz : n ≤ 1048576 := by omega
  have hsz2 : n2 ≤ 1048576 := by omega
  have hsz3 : n3 ≤ 1048576 := by omega
  have HALL := hide (fun e (he : e ∈ es) => show e.h.n ≤ 1048576 by
    obtain ⟨k, hk, rfl⟩ := List.getElem_of_mem he
    have := sumC_at (List.getElem?_eq_getElem hk)
    omega)
  have HC := hide h4; have HG := hide h5; have HH := hide h6
  clear h4 h5 h6
  go_enter Try.func13, Try.ntmps13
  go_wp2_with fail
  refine (laws_toCellS _ _ _ es _ (HC.out.below (B := w.heap.size) (by go_grown) (Nat.le_refl _)) hsz HALL.out).mono ?_
  rintro e w1 ⟨a1, c1, gs, rfl, o1, hgc, h1⟩
  have s1 := h1.size
  try simp only [World.size_alloc, World.size_setCell, World.size_drew, World.heap_drewN] at s1
  have z1_0 : w.heap.size < w1.heap.size := by omega
  have q1_0 := fun o => (bcell h1).1 (w.heap.size) o (by go_size)
  have f1_0 := fun o => (bcell h1).2 (w.heap.size) o (by go_size)
  have z1_1 : w.heap.size + 1 < w1.heap.size := by omega
  have q1_1 := fun o => (bcell h1).1 (w.heap.size + 1) o (by go_size)
  have f1_1 := fun o => (bcell h1).2 (w.heap.size + 1) o (by go_size)
  have z1_2 : w.heap.size + 1 + 1 < w1.heap.size := by omega
  have q1_2 := fun o => (bcell h1).1 (w.heap.size + 1 + 1) o (by go_size)
  have f1_2 := fun o => (bcell h1).2 (w.heap.size + 1 + 1) o (by go_size)
  have H1 : Below w.heap.size w w1 := bthen (by repeat' (first | (with_reducible exact Below.refl _ _) | (with_reducible assumption) | (with_reducible refine bdrawn ?_ _) | (with_reducible refine Below.alloc ?_ ?_ _) | (with_reducible refine Below.drew ?_) | (with_reducible refine Below.setCell ?_ ?_ _) | go_size)) h1 (by go_size)
  have C1 := (bcell H1).1; have F1 := (bcell H1).2
  go_wp2_with fail
  refine (laws_toIntS _ _ _ z2 _ (HG.out.below (B := w.heap.size) (by go_grown) (Nat.le_refl _)) hsz2).mono ?_
  rintro e w2 ⟨a2, c2, rfl, o2, h2⟩
  have s2 := h2.size
  try simp only [World.size_alloc, World.size_setCell, World.size_drew, World.heap_drewN] at s2
  have z2_0 : w.heap.size < w2.heap.size := by omega
  have q2_0 := fun o => (bcell h2).1 (w.heap.size) o (by go_size)
  have f2_0 := fun o => (bcell h2).2 (w.heap.size) o (by go_size)
  have z2_1 : w.heap.size + 1 < w2.heap.size := by omega
  have q2_1 := fun o => (bcell h2).1 (w.heap.size + 1) o (by go_size)
  have f2_1 := fun o => (bcell h2).2 (w.heap.size + 1) o (by go_size)
  have z2_2 : w.heap.size + 1 + 1 < w2.heap.size := by omega
  have q2_2 := fun o => (bcell h2).1 (w.heap.size + 1 + 1) o (by go_size)
  have f2_2 := fun o => (bcell h2).2 (w.heap.size + 1 + 1) o (by go_size)
  have H2 : Below w.heap.size w w2 := bthen (by repeat' (first | (with_reducible exact Below.refl _ _) | (with_reducible assumption) | (with_reducible refine bdrawn ?_ _) | (with_reducible refine Below.alloc ?_ ?_ _) | (with_reducible refine Below.drew ?_) | (with_reducible refine Below.setCell ?_ ?_ _) | go_size)) h2 (by go_size)
  have C2 := (bcell H2).1; have F2 := (bcell H2).2
  go_wp2_with fail
  refine (laws_toIntS _ _ _ z3 _ (HH.out.below (B := w.heap.size) (by go_grown) (Nat.le_refl _)) hsz3).mono ?_
  rintro e w3 ⟨a3, c3, rfl, o3, h3⟩
  have s3 := h3.size
  try simp only [World.size_alloc, World.size_setCell, World.size_drew, World.heap_drewN] at s3
  have z3_0 : w.heap.size < w3.heap.size := by omega
  have q3_0 := fun o => (bcell h3).1 (w.heap.size) o (by go_size)
  have f3_0 := fun o => (bcell h3).2 (w.heap.size) o (by go_size)
  have z3_1 : w.heap.size + 1 < w3.heap.size := by omega
  have q3_1 := fun o => (bcell h3).1 (w.heap.size + 1) o (by go_size)
  have f3_1 := fun o => (bcell h3).2 (w.heap.size + 1) o (by go_size)
  have z3_2 : w.heap.size + 1 + 1 < w3.heap.size := by omega
  have q3_2 := fun o => (bcell h3).1 (w.heap.size + 1 + 1) o (by go_size)
  have f3_2 := fun o => (bcell h3).2 (w.heap.size + 1 + 1) o (by go_size)
  have H3 : Below w.heap.size w w3 := bthen (by repeat' (first | (with_reducible exact Below.refl _ _) | (with_reducible assumption) | (with_reducible refine bdrawn ?_ _) | (with_reducible refine Below.alloc ?_ ?_ _) | (with_reducible refine Below.drew ?_) | (with_reducible refine Below.setCell ?_ ?_ _) | go_size)) h3 (by go_size)
  have C3 := (bcell H3).1; have F3 := (bcell H3).2
  have hA1 := hide ((o1.wide (lo' := w.heap.size + 3) (by go_size) (Nat.le_refl _)).set_off (g := w.heap.size + 1 + 1) (o := 0) (.inl (by omega)) (.slice a1 n c1))
  have hA2 := hide (hA1.out.below h2 (by go_size))
  have r2 := OwnI.of_own o2 HG.out.2.2.2.1
  rw [World.size_setCell] at r2
  have ap2 := hA2.out.apart_new (a := a2) (Nat.le_refl _) (fun x hx => (r2.1.lt hx).1)
  have hA3 := hide (((hA2.out.wide (hi' := w2.heap.size) (Nat.le_refl _) (by go_size)).setAge (r2.wide (by go_size) (Nat.le_refl _)) ap2.1 ap2.2).set_off (g := w.heap.size + 1 + 1) (o := 1) (.inl (by omega)) (.slice a2 n2 c2))
  have hA4 := hide (hA3.out.below h3 (by go_size))
  have r3 := OwnI.of_own o3 HH.out.2.2.2.1
  rw [World.size_setCell] at r3
  have ap3 := hA4.out.apart_new (a := a3) (Nat.le_refl _) (fun x hx => (r3.1.lt hx).1)
  have hA5 := hide ((hA4.out.wide (hi' := w3.heap.size) (Nat.le_refl _) (by go_size)).setHits (r3.wide (by go_size) (Nat.le_refl _)) ap3.1 ap3.2)
  have Hgc := hide hgc
  clear hA1 hA2 hA3 hA4 r2 r3 ap2 ap3 o1 o2 o3 hgc
  go_wp2_with fail
  refine bodyPost_ret (by simp [results, Try.results13, go_sem, *]; try rfl) rfl ?_
  have hA6 := (((hA5.out.set_off (g := w.heap.size + 1 + 1) (o := 2) (.inl (by omega)) (.slice a3 n3 c3)).set_off (g := w.heap.size + 1) (o := 0) (.inl (by omega)) (.slice a1 n c1)).set_off (g := w.heap.size + 1) (o := 1) (.inl (by omega)) (.slice a2 n2 c2)).set_off (g := w.heap.size + 1) (o := 2) (.inl (by omega)) (.slice a3 n3 c3)
  exact ⟨_, rfl, hA6.wide (by omega) (by go_size), by simp only [Ar.con, arCells, Hgc.out], by go_grown⟩
set_option maxHeartbeats 400000 in
theorem laws_eqCell (e f : Cl) (w : World) (he : IsInts .i64 w e.h.a e.h.n e.h.c e.ws) (hf : IsInts .i64 w f.h.a f.h.n f.h.c f.ws) (h : conC e = conC f) :
    Calls Try.prog 76 #[.agg #[.slice e.h.a e.h.n e.h.c, .bool e.p], .agg #[.slice f.h.a f.h.n f.h.c, .bool f.p]] w fun r w' => r = .returned (.bool true) ∧ Below w.heap.size w w' := by
  obtain ⟨⟨a, n, c⟩, ws, p⟩ := e
  obtain ⟨⟨a', n', c'⟩, ws', p'⟩ := f
  simp only [conC, Prod.mk.injEq] at h he hf ⊢
  obtain ⟨rfl, rfl⟩ := h
  obtain rfl : n' = n := hf.1.symm.trans he.1
  have HA := hide he; have HB := hide hf
  clear he hf
  go_enter Try.func76, Try.ntmps76
  go_wp2_with fail
  refine (laws_eqIntS _ _ _ _ _ _ _ (HA.out.below (B := w.heap.size) (by go_grown) (Nat.le_refl _)) (HB.out.below (B := w.heap.size) (by go_grown) (Nat.le_refl _))).mono ?_
  rintro e w1 ⟨rfl, h1⟩
  have s1 := h1.size
  try simp only [World.size_alloc, World.size_setCell, World.size_drew, World.heap_drewN] at s1
  have B1_1 := h1
  have z1_0 : w.heap.size < w1.heap.size := by omega
  have q1_0 := fun o => (bcell B1_1).1 (w.heap.size) o (by go_size)
  have f1_0 := fun o => (bcell B1_1).2 (w.heap.size) o (by go_size)
  have z1_1 : w.heap.size + 1 < w1.heap.size := by omega
  have q1_1 := fun o => (bcell B1_1).1 (w.heap.size + 1) o (by go_size)
  have f1_1 := fun o => (bcell B1_1).2 (w.heap.size + 1) o (by go_size)
  have H1 : Below w.heap.size w w1 := bthen (by repeat' (first | (with_reducible exact Below.refl _ _) | (with_reducible assumption) | (with_reducible refine bdrawn ?_ _) | (with_reducible refine Below.alloc ?_ ?_ _) | (with_reducible refine Below.drew ?_) | (with_reducible refine Below.setCell ?_ ?_ _) | go_size)) h1 (by go_size)
  have C1 := (bcell H1).1; have F1 := (bcell H1).2
  go_wp2
  go_ret
  exact ⟨rfl, by go_grown⟩
set_option maxRecDepth 100000 in
set_option maxHeartbeats 1000000 in
theorem laws_eqCellS (a b : Option Addr) (n c c' : Nat) (es fs : List Cl) (w : World) (ha : IsCells w a n c es) (hb : IsCells w b n c' fs) (hc : es.map conC = fs.map conC) :
    Calls Try.prog 44 #[.slice a n c, .slice b n c'] w fun e w' => e = .returned (.bool true) ∧ Below w.heap.size w w' := by
  have HA := hide ha.1; have HB := hide hb.1; have IA := hide ha.2; have IB := hide hb.2; have HC := hide hc
  have hc := ha.1.2.1; have hm : c ≤ 9223372036854775807 := ha.1.2.2.1
  clear ha hb
  go_enter Try.func44, Try.ntmps44
  go_wp2
  go_loopw [5] (fun i wr => ∃ k : Nat, k ≤ n ∧ i = .int .i64 k ∧ Below w.heap.size w wr) (fun i _ => n - (intOf i).toNat)
  case atStart => exact ⟨0, by omega, rfl, Below.refl _ _⟩
  case round =>
    obtain ⟨k, hk, rfl, hB⟩ := hrel
    by_cases hlt : k < n
    · obtain ⟨e, b1, o1, he, rfl, hlb, hcell⟩ := HA.out.get clF_len (by omega) hlt
      obtain ⟨f, b2, o2, hf, rfl, hlb', hcell'⟩ := HB.out.get clF_len (by omega) hlt
      have e0 : wr.cell? ⟨b1, o1 + k * 2, none⟩ = some (.slice e.h.a e.h.n e.h.c) := (hB.cell (p := ⟨b1, o1 + (k * 2 + 0), none⟩) hlb).trans (hcell 0 _ rfl)
      have e1 : wr.cell? ⟨b1, o1 + k * 2 + 1, none⟩ = some (.bool e.p) := (hB.cell (p := ⟨b1, o1 + (k * 2 + 1), none⟩) hlb).trans (hcell 1 _ rfl)
      have f0 : wr.cell? ⟨b2, o2 + k * 2, none⟩ = some (.slice f.h.a f.h.n f.h.c) := (hB.cell (p := ⟨b2, o2 + (k * 2 + 0), none⟩) hlb').trans (hcell' 0 _ rfl)
      have f1 : wr.cell? ⟨b2, o2 + k * 2 + 1, none⟩ = some (.bool f.p) := (hB.cell (p := ⟨b2, o2 + (k * 2 + 1), none⟩) hlb').trans (hcell' 1 _ rfl)
      have hef : conC e = conC f := by
        have : (es.map conC)[k]? = (fs.map conC)[k]? := by rw [HC.out]
        rw [List.getElem?_map, List.getElem?_map, he, hf] at this
        injection this
      have HEF := hide hef
      have HRA := hide ((IA.out e (List.mem_of_getElem? he)).below hB (Nat.le_refl _)); have HRB := hide ((IB.out f (List.mem_of_getElem? hf)).below hB (Nat.le_refl _))
      have i0 : (0 : Int) ≤ (k : Int) := by omega
      have i1 : (k : Int) < (n : Int) := by omega
      have hs1 := hB.size
      have hl1 : b1 < wr.heap.size := by omega
      have hl2 : b2 < wr.heap.size := by omega
      clear hcell hcell' he hf hef
      go_wp2_with fail
      go_region_held3 (fun v => v.cell? ⟨b1, o1 + k * 2, none⟩ = some (.slice e.h.a e.h.n e.h.c) ∧ v.cell? ⟨b1, o1 + k * 2 + 1, none⟩ = some (.bool e.p) ∧ v.cell? ⟨b2, o2 + k * 2, none⟩ = some (.slice f.h.a f.h.n f.h.c) ∧ v.cell? ⟨b2, o2 + k * 2 + 1, none⟩ = some (.bool f.p)) (go_keep)
        ((go_at_call 76; refine (laws_eqCell e f _ (HRA.out.below (B := wr.heap.size) ((by repeat' (first | (with_reducible exact Below.refl _ _) | (with_reducible assumption) | (with_reducible refine bdrawn ?_ _) | (with_reducible refine Below.alloc ?_ ?_ _) | (with_reducible refine Below.drew ?_) | (with_reducible refine Below.setCell ?_ ?_ _) | go_size))) (Nat.le_refl _)) (HRB.out.below (B := wr.heap.size) ((by repeat' (first | (with_reducible exact Below.refl _ _) | (with_reducible assumption) | (with_reducible refine bdrawn ?_ _) | (with_reducible refine Below.alloc ?_ ?_ _) | (with_reducible refine Below.drew ?_) | (with_reducible refine Below.setCell ?_ ?_ _) | go_size))) (Nat.le_refl _)) HEF.out).mono ?_; rintro r w1 ⟨rfl, h1⟩; replace h1 : Below wr.heap.size wr w1 := bthen (by go_grown) h1 (by go_size); have hB2 : Below w.heap.size w w1 := (bthen hB h1 hs1); obtain ⟨hc1, hf1⟩ := bcell h1))
      go_wp2_with fail
      go_roundw
      case rel => exact ⟨k + 1, by omega, by go_num, by first | assumption | exact bdrawn (by assumption) _⟩
      case measure => simp [intOf]; omega
    · go_wp2
      go_ret
      exact ⟨rfl, hB⟩
set_option maxRecDepth 100000 in
set_option maxHeartbeats 1000000 in
theorem laws_eqArray (A B : Ar) (w : World) (hA : IsAr w A) (hB : IsAr w B) (hc : A.con = B.con) :
    Calls Try.prog 16 #[.agg #[.slice A.a A.n A.c, .slice A.ag.1.a A.ag.1.n A.ag.1.c, .slice A.ht.1.a A.ht.1.n A.ht.1.c], .agg #[.slice B.a B.n B.c, .slice B.ag.1.a B.ag.1.n B.ag.1.c, .slice B.ht.1.a B.ht.1.n B.ht.1.c]] w fun e w' => e = .returned (.bool true) ∧ Below w.heap.size w w' := by
  obtain ⟨a, n, c, es, ⟨⟨a2, n2, c2⟩, z2⟩, ⟨⟨a3, n3, c3⟩, z3⟩⟩ := A
  obtain ⟨b, m, d, fs, ⟨⟨b2, m2, d2⟩, y2⟩, ⟨⟨b3, m3, d3⟩, y3⟩⟩ := B
  obtain ⟨h4, h5, h6⟩ := hA
  obtain ⟨g4, g5, g6⟩ := hB
  simp only [Ar.con, Con.mk.injEq] at h4 h5 h6 g4 g5 g6 hc ⊢
  obtain ⟨hc1, rfl, rfl⟩ := hc
  obtain rfl : n = m := by
    have := congrArg List.length hc1
    rw [List.length_map, List.length_map, h4.1.1, g4.1.1] at this; exact this
  obtain rfl : n2 = m2 := h5.1.symm.trans g5.1
  obtain rfl : n3 = m3 := h6.1.symm.trans g6.1
  have H4 := hide h4; have H5 := hide h5; have H6 := hide h6; have G4 := hide g4; have G5 := hide g5; have G6 := hide g6; have HC := hide hc1
  clear h4 h5 h6 g4 g5 g6 hc1
  go_enter Try.func16, Try.ntmps16
  go_wp2_with fail
  refine (laws_eqCellS _ _ _ _ _ es fs _ (H4.out.below (B := w.heap.size) (by go_grown) (Nat.le_refl _)) (G4.out.below (B := w.heap.size) (by go_grown) (Nat.le_refl _)) HC.out).mono ?_
  rintro e w1 ⟨rfl, h1⟩
  have s1 := h1.size
  try simp only [World.size_alloc, World.size_setCell, World.size_drew, World.heap_drewN] at s1
  have B1_1 := h1
  have z1_0 : w.heap.size < w1.heap.size := by omega
  have q1_0 := fun o => (bcell B1_1).1 (w.heap.size) o (by go_size)
  have f1_0 := fun o => (bcell B1_1).2 (w.heap.size) o (by go_size)
  have z1_1 : w.heap.size + 1 < w1.heap.size := by omega
  have q1_1 := fun o => (bcell B1_1).1 (w.heap.size + 1) o (by go_size)
  have f1_1 := fun o => (bcell B1_1).2 (w.heap.size + 1) o (by go_size)
  have H1 : Below w.heap.size w w1 := bthen (by repeat' (first | (with_reducible exact Below.refl _ _) | (with_reducible assumption) | (with_reducible refine bdrawn ?_ _) | (with_reducible refine Below.alloc ?_ ?_ _) | (with_reducible refine Below.drew ?_) | (with_reducible refine Below.setCell ?_ ?_ _) | go_size)) h1 (by go_size)
  have C1 := (bcell H1).1; have F1 := (bcell H1).2
  go_wp2_with fail
  refine (laws_eqIntS _ _ _ _ _ _ _ (H5.out.below (B := w.heap.size) (by go_grown) (Nat.le_refl _)) (G5.out.below (B := w.heap.size) (by go_grown) (Nat.le_refl _))).mono ?_
  rintro e w2 ⟨rfl, h2⟩
  have s2 := h2.size
  try simp only [World.size_alloc, World.size_setCell, World.size_drew, World.heap_drewN] at s2
  have B2_1 := bnext (by first | (with_reducible exact B1_1) | exact (bgrow B1_1 (by go_size) (by repeat' (first | (with_reducible exact Below.refl _ _) | (with_reducible assumption) | (with_reducible refine bdrawn ?_ _) | (with_reducible refine Below.alloc ?_ ?_ _) | (with_reducible refine Below.drew ?_) | (with_reducible refine Below.setCell ?_ ?_ _) | go_size)))) h2 (by go_size)
  have z2_0 : w.heap.size < w2.heap.size := by omega
  have q2_0 := fun o => (bcell B2_1).1 (w.heap.size) o (by go_size)
  have f2_0 := fun o => (bcell B2_1).2 (w.heap.size) o (by go_size)
  have z2_1 : w.heap.size + 1 < w2.heap.size := by omega
  have q2_1 := fun o => (bcell B2_1).1 (w.heap.size + 1) o (by go_size)
  have f2_1 := fun o => (bcell B2_1).2 (w.heap.size + 1) o (by go_size)
  have H2 : Below w.heap.size w w2 := bthen (by repeat' (first | (with_reducible exact Below.refl _ _) | (with_reducible assumption) | (with_reducible refine bdrawn ?_ _) | (with_reducible refine Below.alloc ?_ ?_ _) | (with_reducible refine Below.drew ?_) | (with_reducible refine Below.setCell ?_ ?_ _) | go_size)) h2 (by go_size)
  have C2 := (bcell H2).1; have F2 := (bcell H2).2
  go_wp2_with fail
  refine (laws_eqIntS _ _ _ _ _ _ _ (H6.out.below (B := w.heap.size) (by go_grown) (Nat.le_refl _)) (G6.out.below (B := w.heap.size) (by go_grown) (Nat.le_refl _))).mono ?_
  rintro e w3 ⟨rfl, h3⟩
  have s3 := h3.size
  try simp only [World.size_alloc, World.size_setCell, World.size_drew, World.heap_drewN] at s3
  have B3_1 := bnext (by first | (with_reducible exact B2_1) | exact (bgrow B2_1 (by go_size) (by repeat' (first | (with_reducible exact Below.refl _ _) | (with_reducible assumption) | (with_reducible refine bdrawn ?_ _) | (with_reducible refine Below.alloc ?_ ?_ _) | (with_reducible refine Below.drew ?_) | (with_reducible refine Below.setCell ?_ ?_ _) | go_size)))) h3 (by go_size)
  have z3_0 : w.heap.size < w3.heap.size := by omega
  have q3_0 := fun o => (bcell B3_1).1 (w.heap.size) o (by go_size)
  have f3_0 := fun o => (bcell B3_1).2 (w.heap.size) o (by go_size)
  have z3_1 : w.heap.size + 1 < w3.heap.size := by omega
  have q3_1 := fun o => (bcell B3_1).1 (w.heap.size + 1) o (by go_size)
  have f3_1 := fun o => (bcell B3_1).2 (w.heap.size + 1) o (by go_size)
  have H3 : Below w.heap.size w w3 := bthen (by repeat' (first | (with_reducible exact Below.refl _ _) | (with_reducible assumption) | (with_reducible refine bdrawn ?_ _) | (with_reducible refine Below.alloc ?_ ?_ _) | (with_reducible refine Below.drew ?_) | (with_reducible refine Below.setCell ?_ ?_ _) | go_size)) h3 (by go_size)
  have C3 := (bcell H3).1; have F3 := (bcell H3).2
  go_wp2
  go_ret
  exact ⟨rfl, by go_grown⟩
/-- The marks of cells, in their order. -/
def markCs : Int → List Cl → List Cl
  | _, [] => []
  | k, e :: es => ⟨e.h, markI k e.h.n, (k + e.h.n) % 3 == 0⟩ :: markCs (k + e.h.n + 1) es
theorem markCs_len : ∀ (es : List Cl) (k : Int), (markCs k es).length = es.length
  | [], _ => rfl
  | e :: es, k => by simp [markCs, markCs_len es]
theorem markCs_at : ∀ (es : List Cl) (k0 : Int) (i : Nat) (e : Cl), es[i]? = some e → (markCs k0 es)[i]? = some ⟨e.h, markI (k0 + i + sumC (es.take i)) e.h.n, (k0 + i + sumC (es.take i) + e.h.n) % 3 == 0⟩
  | [], _, i, e, h => by simp at h
  | f :: es, k0, 0, e, h => by simp at h; subst h; simp [markCs, sumC]
  | f :: es, k0, i + 1, e, h => by
    have := markCs_at es (k0 + f.h.n + 1) i e (by simpa using h)
    have e1 : k0 + ((i + 1 : Nat) : Int) + (sumC ((f :: es).take (i + 1)) : Int) = k0 + f.h.n + 1 + i + sumC (es.take i) := by
      simp only [List.take_succ_cons, sumC, List.map_cons, List.sum_cons]; omega
    rw [e1]
    simpa [markCs] using this
theorem markCs_sum : ∀ (es : List Cl) (k : Int), sumC (markCs k es) = sumC es
  | [], _ => rfl
  | e :: es, k => by have := markCs_sum es (k + e.h.n + 1); simp only [markCs, sumC, List.map_cons, List.sum_cons] at this ⊢; omega
theorem get_over {α : Type} {ms xs : List α} {k : Nat} {x : α} (h : xs[k]? = some x) (hl : ms.length = xs.length) : (ms.take k ++ xs.drop k)[k]? = some x := by
  have hk := (List.getElem?_eq_some_iff.1 h).1
  have hl2 : (ms.take k).length = k := by rw [List.length_take]; omega
  rw [List.getElem?_append_right (by omega), hl2, Nat.sub_self, List.getElem?_drop, Nat.add_zero, h]
set_option maxRecDepth 100000 in
set_option maxHeartbeats 1000000 in
theorem laws_markCellS (lo hi : Nat) (A : Ar) (k0 : Int) (w : World) (hk0 : 0 ≤ k0 ∧ k0 ≤ 900000000) (hsum : A.n + sumC A.es ≤ 1048576) (ho : OwnAr lo hi w A) :
    Calls Try.prog 45 #[.slice A.a A.n A.c, .int .i64 k0] w fun e w' => e = .returned (.int .i64 (k0 + A.n + sumC A.es)) ∧ OwnAr lo hi w' { A with es := markCs k0 A.es } ∧ Save lo hi w w' := by
  have hk1 := hk0.1; have hk2 := hk0.2
  clear hk0
  obtain ⟨a, n, c, es, ag, ht⟩ := A
  simp only at hsum ⊢
  have HL := hide ho.len
  have hc := ho.outer.caps.1; have hm : c ≤ 9223372036854775807 := ho.outer.caps.2
  simp only at hc HL
  have HO := hide ho
  clear ho
  go_enter Try.func45, Try.ntmps45
  go_wp2
  go_loopw [1, 5] (fun v i wr => ∃ k : Nat, k ≤ n ∧ i = .int .i64 k ∧ v = .int .i64 (k0 + k + sumC (es.take k)) ∧ OwnAr lo hi wr ⟨a, n, c, (markCs k0 es).take k ++ es.drop k, ag, ht⟩ ∧ Save lo hi w wr) (fun _ i _ => n - (intOf i).toNat)
  case atStart => exact ⟨0, by omega, rfl, by simp [sumC], by simpa using HO.out, Save.refl _ _ _⟩
  case round =>
    obtain ⟨k, hk, rfl, rfl, hO, hS⟩ := hrel
    have hb := sumC_take_le es k
    by_cases hlt : k < n
    · obtain ⟨e, he⟩ : ∃ e, es[k]? = some e := ⟨_, List.getElem?_eq_getElem (by rw [HL.out]; exact hlt)⟩
      have hat := get_over (ms := markCs k0 es) he (markCs_len _ _)
      obtain ⟨g, hga, hg1, hg2, hg3, hcell, hfr⟩ := hO.outer.some (by show 0 < n; omega)
      simp only at hga
      subst hga
      have e0 : wr.cell? ⟨g, k * 2, none⟩ = some (.slice e.h.a e.h.n e.h.c) := (hcell (k * 2 + 0) (by show k * 2 + 0 < n * 2; omega)).trans (flat_at clF_len _ k 0 e _ hat rfl)
      have hmem : rowC e ∈ (⟨some ⟨g, 0, none⟩, n, c, (markCs k0 es).take k ++ es.drop k, ag, ht⟩ : Ar).rows := by simp only [Ar.rows, List.mem_cons, List.mem_map]; exact .inr (.inr ⟨e, List.mem_of_getElem? hat, rfl⟩)
      have hrow := hO.sep.rows _ hmem
      have HSS := hide (sumC_snoc he)
      have hhn := sumC_at he
      have i0 : (0 : Int) ≤ (k : Int) := by omega
      have i1 : (k : Int) < (n : Int) := by omega
      have HR := hide (show Owned lo hi wr 3 1 e.h.a e.h.n e.h.c (e.ws.map (.int .i64)) from hrow.1); have HAT := hide hat; have HE := hide he; have HOO := hide hO
      clear hcell hrow hmem hat he hO
      go_wp2_with fail
      refine (laws_markIntS (segLo e.h.a) (segHi e.h.a) _ _ _ _ _ _ (by omega) (by omega) HR.out.seg).mono ?_
      rintro r w1 ⟨rfl, ho1, hs1⟩
      have hbnd := fun x hx => (show lo ≤ x.block ∧ x.block < hi from ⟨(HR.out.lt (x := x) hx).1, (HR.out.lt (x := x) hx).2.1⟩)
      have hS1 := hS.trans (OneW.save hs1 hbnd)
      have hO1 := HOO.out.row HAT.out hs1 (zs := markI (k0 + k + sumC (es.take k)) e.h.n) ⟨ho1.unseg hbnd, markI_wf _ _ (by omega) (by omega) (by omega)⟩
      have hat1 : (((markCs k0 es).take k ++ es.drop k).set k ⟨e.h, markI (k0 + k + sumC (es.take k)) e.h.n, e.p⟩)[k]? = some ⟨e.h, markI (k0 + k + sumC (es.take k)) e.h.n, e.p⟩ := List.getElem?_set_self (List.getElem?_eq_some_iff.1 HAT.out).1
      have HF := hide (hO1.flag (g := g) rfl hat1 ((k0 + k + sumC (es.take k) + e.h.n) % 3 == 0))
      have c1 : w1.cell? ⟨g, k * 2 + 1, none⟩ = some (.bool e.p) := (hO1.outer.1.cellAt (k * 2 + 1) (by show k * 2 + 1 < n * 2; omega)).trans (flat_at clF_len _ k 1 _ _ hat1 rfl)
      have fr := fun j => hO1.outer.1.frozenAt j
      have hx : (((markCs k0 es).take k ++ es.drop k).set k ⟨e.h, markI (k0 + k + sumC (es.take k)) e.h.n, e.p⟩).set k ⟨e.h, markI (k0 + k + sumC (es.take k)) e.h.n, (k0 + k + sumC (es.take k) + e.h.n) % 3 == 0⟩ = (markCs k0 es).take (k + 1) ++ es.drop (k + 1) := by
        rw [List.set_set]
        exact over_next _ _ k n hlt (by rw [markCs_len, HL.out]) HL.out _ (markCs_at es k0 k e HE.out)
      have HX := hide hx
      have hsave := hS1.trans (save_set (lo := lo) (hi := hi) (g := g) (o := k * 2 + 1) (.bool ((k0 + k + sumC (es.take k) + e.h.n) % 3 == 0)) ⟨hg1, hg2⟩)
      have HS2 := hide hsave
      clear hO1 ho1 hs1 hat1 hbnd hx hsave hS1
      go_wp2_with fail
      go_roundw
      case rel =>
        refine ⟨k + 1, by omega, by go_num, by rw [HSS.out]; simp; omega, ?_, ?_⟩
        · have := HF.out
          (try simp only at this)
          rw [HX.out] at this
          exact this
        · exact HS2.out
      case measure => simp [intOf]; omega
    · go_wp2
      go_ret
      obtain rfl : k = n := by omega
      rw [List.take_of_length_le (by rw [markCs_len, HL.out]; exact Nat.le_refl _), List.drop_eq_nil_of_le (by rw [HL.out]; exact Nat.le_refl _), List.append_nil] at hO
      rw [List.take_of_length_le (by rw [HL.out]; exact Nat.le_refl _)]
      exact ⟨rfl, hO, hS⟩
end Go.Proofs.Ytkhcepmileiejaa
