/- Arrays of cells: the laws' helpers (how large, copy, comparison). -/
import Derived.Test.YtkhcepmileiejaaCells
import Derived.Test.YtkhcepmileiejaaIntMarks
import Derived.Deep.RegionHeld3
set_option linter.unusedSimpArgs false
set_option linter.unusedVariables false
namespace Go.Proofs.Ytkhcepmileiejaa
open Go.RowKit Go.ChangeShapes Go.WideShapes Go.ChangeAt Go.Joins Go.Deep
open Go.ChangeMaps (open_string shut_string)
theorem World.set_off {lo hi n c g o : Nat} {w : World} {E : TypeId} {sz : Nat} {a : Option Addr} {xs : List Value} (h : Owned lo hi w E sz a n c xs) (hg : g < lo ∨ hi ≤ g) (v : Value) : Owned lo hi (w.setCell ⟨g, o, none⟩ v) E sz a n c xs :=
  h.save (lo' := g) (hi' := g + 1) ⟨rfl, rfl, rfl, by simp [World.setCell], fun k hk hr => heap_set_other w g o k v (by omega)⟩ (by omega)
theorem save_set {lo hi g o : Nat} {w : World} (v : Value) (h : lo ≤ g ∧ g < hi) : Save lo hi w (w.setCell ⟨g, o, none⟩ v) := ⟨rfl, rfl, rfl, by simp [World.setCell], fun k hk hr => heap_set_other w g o k v (by omega)⟩
theorem OwnAr.set_off {lo hi g o : Nat} {w : World} {A : Ar} (h : OwnAr lo hi w A) (hg : g < lo ∨ hi ≤ g) (v : Value) : OwnAr lo hi (w.setCell ⟨g, o, none⟩ v) A :=
  h.save (lo' := g) (hi' := g + 1) (save_set v (by omega)) (by omega)
def sumC (es : List Cl) : Nat := (es.map fun e => e.h.n).sum
theorem sumC_snoc {es : List Cl} {k : Nat} {e : Cl} (hk : es[k]? = some e) : sumC (es.take (k + 1)) = sumC (es.take k) + e.h.n := by
  unfold sumC; rw [take_snoc hk, List.map_append, List.sum_append]; simp
theorem sumC_take_le (es : List Cl) (k : Nat) : sumC (es.take k) ≤ sumC es := by
  have : sumC es = sumC (es.take k) + sumC (es.drop k) := by unfold sumC; rw [← List.sum_append, ← List.map_append, List.take_append_drop]
  omega
theorem sumC_at {es : List Cl} {k : Nat} {e : Cl} (hk : es[k]? = some e) : e.h.n ≤ sumC es := by
  have := sumC_take_le es (k + 1); rw [sumC_snoc hk] at this; omega
/-- What is left of l behind m; -1 where it is used up. -/
def szI (l : Int) (m : Nat) : Int := if l - m < 0 then -1 else l - m
theorem szI_fit {l : Int} {m : Nat} (h : (m : Int) ≤ l) : szI l m = l - m := if_neg (by omega)
theorem szI_no {l : Int} {m : Nat} (h : l < (m : Int)) : szI l m = -1 := if_pos (by omega)
set_option maxHeartbeats 400000 in
theorem laws_szIntS (a : Option Addr) (n c : Nat) (l v : Int) (w : World) (h0 : 0 ≤ l) (h2 : l ≤ 1048576) (hm : n ≤ c ∧ c ≤ 9223372036854775807) (hv : szI l n = v) :
    Calls Try.prog 40 #[.slice a n c, .int .i64 l] w fun e w' => e = .returned (.int .i64 v) ∧ Below w.heap.size w w' := by
  have h4 := hm.1; have h5 := hm.2
  clear hm
  by_cases h1 : (n : Int) ≤ l
  · rw [szI_fit h1] at hv
    have h3 : 0 ≤ l - (n : Int) := by omega
    go_enter Try.func40, Try.ntmps40
    go_wp2
    go_ret
    exact ⟨rfl, Below.refl _ _⟩
  · rw [szI_no (by omega)] at hv
    have h3 : l - (n : Int) < 0 := by omega
    go_enter Try.func40, Try.ntmps40
    go_wp2
    go_ret
    exact ⟨rfl, Below.refl _ _⟩
set_option maxHeartbeats 400000 in
theorem laws_szCell (a : Option Addr) (n c : Nat) (p : Bool) (l v : Int) (w : World) (h0 : 0 ≤ l) (h2 : l ≤ 1048576) (hm : n ≤ c ∧ c ≤ 9223372036854775807) (hv : szI l n = v) :
    Calls Try.prog 73 #[.agg #[.slice a n c, .bool p], .int .i64 l] w fun e w' => e = .returned (.int .i64 v) ∧ Below w.heap.size w w' := by
  by_cases h1 : (n : Int) ≤ l
  · have hv2 := szI_fit h1
    have h3 : 0 ≤ l - (n : Int) := by omega
    go_enter Try.func73, Try.ntmps73
    go_wp2_with fail
    refine (laws_szIntS _ _ _ _ _ _ h0 h2 hm hv2).mono ?_
    rintro e w1 ⟨rfl, h1⟩
    have s1 := h1.size
    try simp only [World.size_alloc, World.size_setCell, World.size_drew, World.heap_drewN] at s1
    have B1_1 := h1
    have z1_0 : w.heap.size < w1.heap.size := by omega
    have q1_0 := fun o => (bcell B1_1).1 (w.heap.size) o (by go_size)
    have f1_0 := fun o => (bcell B1_1).2 (w.heap.size) o (by go_size)
    have H1 : Below w.heap.size w w1 := bthen (by repeat' (first | (with_reducible exact Below.refl _ _) | (with_reducible assumption) | (with_reducible refine bdrawn ?_ _) | (with_reducible refine Below.alloc ?_ ?_ _) | (with_reducible refine Below.drew ?_) | (with_reducible refine Below.setCell ?_ ?_ _) | go_size)) h1 (by go_size)
    have C1 := (bcell H1).1; have F1 := (bcell H1).2
    go_wp2_with fail
    go_ret
    exact ⟨ret_int (by rw [← hv, hv2]), H1⟩
  · have hv2 := szI_no (show l < (n : Int) by omega)
    go_enter Try.func73, Try.ntmps73
    go_wp2_with fail
    refine (laws_szIntS _ _ _ _ _ _ h0 h2 hm hv2).mono ?_
    rintro e w1 ⟨rfl, h1⟩
    have s1 := h1.size
    try simp only [World.size_alloc, World.size_setCell, World.size_drew, World.heap_drewN] at s1
    have B1_1 := h1
    have z1_0 : w.heap.size < w1.heap.size := by omega
    have q1_0 := fun o => (bcell B1_1).1 (w.heap.size) o (by go_size)
    have f1_0 := fun o => (bcell B1_1).2 (w.heap.size) o (by go_size)
    have H1 : Below w.heap.size w w1 := bthen (by repeat' (first | (with_reducible exact Below.refl _ _) | (with_reducible assumption) | (with_reducible refine bdrawn ?_ _) | (with_reducible refine Below.alloc ?_ ?_ _) | (with_reducible refine Below.drew ?_) | (with_reducible refine Below.setCell ?_ ?_ _) | go_size)) h1 (by go_size)
    have C1 := (bcell H1).1; have F1 := (bcell H1).2
    go_wp2_with fail
    go_ret
    exact ⟨ret_int (by rw [← hv, hv2]), H1⟩
set_option maxHeartbeats 1000000 in
theorem laws_szCellS (a : Option Addr) (n c : Nat) (es : List Cl) (l v : Int) (w : World) (hn : IsCells w a n c es) (h0 : 0 ≤ l) (h2 : l ≤ 1048576) (hv : szI l (n + sumC es) = v) :
    Calls Try.prog 39 #[.slice a n c, .int .i64 l] w fun e w' => e = .returned (.int .i64 v) ∧ Below w.heap.size w w' := by
  have HN := hide hn.1; have HI := hide hn.2; have HL := hide hn.1.1; have HV := hide hv
  have hc := hn.1.2.1; have hm : c ≤ 9223372036854775807 := hn.1.2.2.1
  clear hn hv
  by_cases h1 : (n : Int) ≤ l
  · have h3 : 0 ≤ l - (n : Int) := by omega
    go_enter Try.func39, Try.ntmps39
    go_wp2_with fail
    go_loopw [1, 5] (fun v i wr => ∃ k : Nat, k ≤ n ∧ i = .int .i64 k ∧ v = .int .i64 (l - n - sumC (es.take k)) ∧ (sumC (es.take k) : Int) ≤ l - n ∧ Below w.heap.size w wr) (fun _ i _ => n - (intOf i).toNat)
    case atStart => exact ⟨0, by omega, rfl, by simp [sumC], by simp [sumC]; omega, Below.refl _ _⟩
    case round =>
      obtain ⟨k, hk, rfl, rfl, hsum, hB⟩ := hrel
      by_cases hlt : k < n
      · obtain ⟨e, b1, o1, he, rfl, hlb, hcell⟩ := HN.out.get clF_len (by omega) hlt
        have e0 : wr.cell? ⟨b1, o1 + k * 2, none⟩ = some (.slice e.h.a e.h.n e.h.c) := (hB.cell (p := ⟨b1, o1 + (k * 2 + 0), none⟩) hlb).trans (hcell 0 _ rfl)
        have e1 : wr.cell? ⟨b1, o1 + k * 2 + 1, none⟩ = some (.bool e.p) := (hB.cell (p := ⟨b1, o1 + (k * 2 + 1), none⟩) hlb).trans (hcell 1 _ rfl)
        have HS := hide (sumC_snoc he)
        have hr := HI.out e (List.mem_of_getElem? he)
        have hcr : e.h.n ≤ e.h.c ∧ e.h.c ≤ 9223372036854775807 := ⟨hr.2.1, hr.2.2.1⟩
        have HCR := hide hcr
        have i0 : (0 : Int) ≤ (k : Int) := by omega
        have i1 : (k : Int) < (n : Int) := by omega
        have hsb := hB.size
        clear hcell he hr hcr
        by_cases hle : (e.h.n : Int) ≤ l - n - sumC (es.take k)
        · have i2 : 0 ≤ l - n - sumC (es.take k) - (e.h.n : Int) := by omega
          go_wp2_with fail
          refine (laws_szCell _ _ _ _ _ _ _ (by omega) (by omega) HCR.out (szI_fit hle)).mono ?_
          rintro r w1 ⟨rfl, h1'⟩
          have hB1 : Below w.heap.size w w1 := bthen hB h1' hB.size
          go_wp2_with fail
          go_roundw
          case rel => exact ⟨k + 1, by omega, by go_num, by rw [HS.out]; simp; omega, by rw [HS.out]; omega, hB1⟩
          case measure => simp [intOf]; omega
        · have i2 : l - n - sumC (es.take k) < (e.h.n : Int) := by omega
          go_wp2_with fail
          refine (laws_szCell _ _ _ _ _ _ _ (by omega) (by omega) HCR.out (szI_no i2)).mono ?_
          rintro r w1 ⟨rfl, h1'⟩
          have hB1 : Below w.heap.size w w1 := bthen hB h1' hB.size
          go_wp2_with fail
          go_ret
          have := sumC_take_le es (k + 1)
          rw [HS.out] at this
          exact ⟨ret_int (by rw [← HV.out]; exact (szI_no (by omega)).symm), hB1⟩
      · obtain rfl : k = n := by omega
        go_wp2_with fail
        go_ret
        rw [List.take_of_length_le (by rw [HL.out]; exact Nat.le_refl _)] at hsum ⊢
        exact ⟨ret_int (by rw [← HV.out, szI_fit (by omega)]; omega), hB⟩
  · have h3 : l - (n : Int) < 0 := by omega
    go_enter Try.func39, Try.ntmps39
    go_wp2
    go_ret
    exact ⟨ret_int (by rw [← HV.out]; exact (szI_no (by omega)).symm), Below.refl _ _⟩
/-- How much an array takes. -/
def Ar.tot (A : Ar) : Nat := A.n + sumC A.es + A.ag.1.n + A.ht.1.n
set_option maxHeartbeats 1000000 in
theorem laws_szArray (A : Ar) (l v : Int) (w : World) (hA : IsAr w A) (h0 : 0 ≤ l) (h2 : l ≤ 1048576) (hv : szI l A.tot = v) :
    Calls Try.prog 10 #[.agg #[.slice A.a A.n A.c, .slice A.ag.1.a A.ag.1.n A.ag.1.c, .slice A.ht.1.a A.ht.1.n A.ht.1.c], .int .i64 l] w fun e w' => e = .returned (.int .i64 v) ∧ Below w.heap.size w w' := by
  obtain ⟨a, n, c, es, ⟨⟨a2, n2, c2⟩, z2⟩, ⟨⟨a3, n3, c3⟩, z3⟩⟩ := A
  obtain ⟨h4, h5, h6⟩ := hA
  simp only [Ar.tot] at h4 h5 h6 hv ⊢
  have HC := hide h4
  have m2 : n2 ≤ c2 ∧ c2 ≤ 9223372036854775807 := ⟨h5.2.1, h5.2.2.1⟩
  have m3 : n3 ≤ c3 ∧ c3 ≤ 9223372036854775807 := ⟨h6.2.1, h6.2.2.1⟩
  have M2 := hide m2; have M3 := hide m3
  clear h4 h5 h6 m2 m3
  have hHC := hide (fun (o : Obj) => HC.out.below (B := w.heap.size) (w' := w.alloc o) (Below.alloc (Below.refl _ _) (Nat.le_refl _) _) (Nat.le_refl _))
  by_cases q1 : ((n + sumC es : Nat) : Int) ≤ l
  · have f1 := szI_fit q1
    have r1 : 0 ≤ l - ((n + sumC es : Nat) : Int) := by omega
    by_cases q2 : (n2 : Int) ≤ l - ((n + sumC es : Nat) : Int)
    · have f2 := szI_fit q2
      have r2 : 0 ≤ l - ((n + sumC es : Nat) : Int) - (n2 : Int) := by omega
      by_cases q3 : (n3 : Int) ≤ l - ((n + sumC es : Nat) : Int) - n2
      · have f3 := szI_fit q3
        have r3 : 0 ≤ l - ((n + sumC es : Nat) : Int) - (n2 : Int) - (n3 : Int) := by omega
        rw [szI_fit (by omega)] at hv
        go_enter Try.func10, Try.ntmps10
        go_wp2_with fail
        refine (laws_szCellS _ _ _ es _ _ _ (hHC.out _) h0 h2 f1).mono ?_
        rintro e w1 ⟨rfl, h1⟩
        have s1 := h1.size
        try simp only [World.size_alloc, World.size_setCell, World.size_drew, World.heap_drewN] at s1
        have B1_1 := h1
        have z1_0 : w.heap.size < w1.heap.size := by omega
        have q1_0 := fun o => (bcell B1_1).1 (w.heap.size) o (by go_size)
        have f1_0 := fun o => (bcell B1_1).2 (w.heap.size) o (by go_size)
        have H1 : Below w.heap.size w w1 := bthen (by repeat' (first | (with_reducible exact Below.refl _ _) | (with_reducible assumption) | (with_reducible refine bdrawn ?_ _) | (with_reducible refine Below.alloc ?_ ?_ _) | (with_reducible refine Below.drew ?_) | (with_reducible refine Below.setCell ?_ ?_ _) | go_size)) h1 (by go_size)
        have C1 := (bcell H1).1; have F1 := (bcell H1).2
        go_wp2_with fail
        refine (laws_szIntS _ _ _ _ _ _ r1 (by omega) M2.out f2).mono ?_
        rintro e w2 ⟨rfl, h2⟩
        have s2 := h2.size
        try simp only [World.size_alloc, World.size_setCell, World.size_drew, World.heap_drewN] at s2
        have B2_1 := bnext (by first | (with_reducible exact B1_1) | exact (bgrow B1_1 (by go_size) (by repeat' (first | (with_reducible exact Below.refl _ _) | (with_reducible assumption) | (with_reducible refine bdrawn ?_ _) | (with_reducible refine Below.alloc ?_ ?_ _) | (with_reducible refine Below.drew ?_) | (with_reducible refine Below.setCell ?_ ?_ _) | go_size)))) h2 (by go_size)
        have z2_0 : w.heap.size < w2.heap.size := by omega
        have q2_0 := fun o => (bcell B2_1).1 (w.heap.size) o (by go_size)
        have f2_0 := fun o => (bcell B2_1).2 (w.heap.size) o (by go_size)
        have H2 : Below w.heap.size w w2 := bthen (by repeat' (first | (with_reducible exact Below.refl _ _) | (with_reducible assumption) | (with_reducible refine bdrawn ?_ _) | (with_reducible refine Below.alloc ?_ ?_ _) | (with_reducible refine Below.drew ?_) | (with_reducible refine Below.setCell ?_ ?_ _) | go_size)) h2 (by go_size)
        have C2 := (bcell H2).1; have F2 := (bcell H2).2
        go_wp2_with fail
        refine (laws_szIntS _ _ _ _ _ _ r2 (by omega) M3.out f3).mono ?_
        rintro e w3 ⟨rfl, h3⟩
        have s3 := h3.size
        try simp only [World.size_alloc, World.size_setCell, World.size_drew, World.heap_drewN] at s3
        have B3_1 := bnext (by first | (with_reducible exact B2_1) | exact (bgrow B2_1 (by go_size) (by repeat' (first | (with_reducible exact Below.refl _ _) | (with_reducible assumption) | (with_reducible refine bdrawn ?_ _) | (with_reducible refine Below.alloc ?_ ?_ _) | (with_reducible refine Below.drew ?_) | (with_reducible refine Below.setCell ?_ ?_ _) | go_size)))) h3 (by go_size)
        have z3_0 : w.heap.size < w3.heap.size := by omega
        have q3_0 := fun o => (bcell B3_1).1 (w.heap.size) o (by go_size)
        have f3_0 := fun o => (bcell B3_1).2 (w.heap.size) o (by go_size)
        have H3 : Below w.heap.size w w3 := bthen (by repeat' (first | (with_reducible exact Below.refl _ _) | (with_reducible assumption) | (with_reducible refine bdrawn ?_ _) | (with_reducible refine Below.alloc ?_ ?_ _) | (with_reducible refine Below.drew ?_) | (with_reducible refine Below.setCell ?_ ?_ _) | go_size)) h3 (by go_size)
        have C3 := (bcell H3).1; have F3 := (bcell H3).2
        go_wp2_with fail
        go_ret
        exact ⟨ret_int (by rw [← hv]; omega), H3⟩
      · have f3 := szI_no (show l - ((n + sumC es : Nat) : Int) - n2 < (n3 : Int) by omega)
        rw [szI_no (by omega)] at hv
        go_enter Try.func10, Try.ntmps10
        go_wp2_with fail
        refine (laws_szCellS _ _ _ es _ _ _ (hHC.out _) h0 h2 f1).mono ?_
        rintro e w1 ⟨rfl, h1⟩
        have s1 := h1.size
        try simp only [World.size_alloc, World.size_setCell, World.size_drew, World.heap_drewN] at s1
        have B1_1 := h1
        have z1_0 : w.heap.size < w1.heap.size := by omega
        have q1_0 := fun o => (bcell B1_1).1 (w.heap.size) o (by go_size)
        have f1_0 := fun o => (bcell B1_1).2 (w.heap.size) o (by go_size)
        have H1 : Below w.heap.size w w1 := bthen (by repeat' (first | (with_reducible exact Below.refl _ _) | (with_reducible assumption) | (with_reducible refine bdrawn ?_ _) | (with_reducible refine Below.alloc ?_ ?_ _) | (with_reducible refine Below.drew ?_) | (with_reducible refine Below.setCell ?_ ?_ _) | go_size)) h1 (by go_size)
        have C1 := (bcell H1).1; have F1 := (bcell H1).2
        go_wp2_with fail
        refine (laws_szIntS _ _ _ _ _ _ r1 (by omega) M2.out f2).mono ?_
        rintro e w2 ⟨rfl, h2⟩
        have s2 := h2.size
        try simp only [World.size_alloc, World.size_setCell, World.size_drew, World.heap_drewN] at s2
        have B2_1 := bnext (by first | (with_reducible exact B1_1) | exact (bgrow B1_1 (by go_size) (by repeat' (first | (with_reducible exact Below.refl _ _) | (with_reducible assumption) | (with_reducible refine bdrawn ?_ _) | (with_reducible refine Below.alloc ?_ ?_ _) | (with_reducible refine Below.drew ?_) | (with_reducible refine Below.setCell ?_ ?_ _) | go_size)))) h2 (by go_size)
        have z2_0 : w.heap.size < w2.heap.size := by omega
        have q2_0 := fun o => (bcell B2_1).1 (w.heap.size) o (by go_size)
        have f2_0 := fun o => (bcell B2_1).2 (w.heap.size) o (by go_size)
        have H2 : Below w.heap.size w w2 := bthen (by repeat' (first | (with_reducible exact Below.refl _ _) | (with_reducible assumption) | (with_reducible refine bdrawn ?_ _) | (with_reducible refine Below.alloc ?_ ?_ _) | (with_reducible refine Below.drew ?_) | (with_reducible refine Below.setCell ?_ ?_ _) | go_size)) h2 (by go_size)
        have C2 := (bcell H2).1; have F2 := (bcell H2).2
        go_wp2_with fail
        refine (laws_szIntS _ _ _ _ _ _ r2 (by omega) M3.out f3).mono ?_
        rintro e w3 ⟨rfl, h3⟩
        have s3 := h3.size
        try simp only [World.size_alloc, World.size_setCell, World.size_drew, World.heap_drewN] at s3
        have B3_1 := bnext (by first | (with_reducible exact B2_1) | exact (bgrow B2_1 (by go_size) (by repeat' (first | (with_reducible exact Below.refl _ _) | (with_reducible assumption) | (with_reducible refine bdrawn ?_ _) | (with_reducible refine Below.alloc ?_ ?_ _) | (with_reducible refine Below.drew ?_) | (with_reducible refine Below.setCell ?_ ?_ _) | go_size)))) h3 (by go_size)
        have z3_0 : w.heap.size < w3.heap.size := by omega
        have q3_0 := fun o => (bcell B3_1).1 (w.heap.size) o (by go_size)
        have f3_0 := fun o => (bcell B3_1).2 (w.heap.size) o (by go_size)
        have H3 : Below w.heap.size w w3 := bthen (by repeat' (first | (with_reducible exact Below.refl _ _) | (with_reducible assumption) | (with_reducible refine bdrawn ?_ _) | (with_reducible refine Below.alloc ?_ ?_ _) | (with_reducible refine Below.drew ?_) | (with_reducible refine Below.setCell ?_ ?_ _) | go_size)) h3 (by go_size)
        have C3 := (bcell H3).1; have F3 := (bcell H3).2
        go_wp2_with fail
        go_ret
        exact ⟨ret_int hv, H3⟩
    · have f2 := szI_no (show l - ((n + sumC es : Nat) : Int) < (n2 : Int) by omega)
      rw [szI_no (by omega)] at hv
      go_enter Try.func10, Try.ntmps10
      go_wp2_with fail
      refine (laws_szCellS _ _ _ es _ _ _ (hHC.out _) h0 h2 f1).mono ?_
      rintro e w1 ⟨rfl, h1⟩
      have s1 := h1.size
      try simp only [World.size_alloc, World.size_setCell, World.size_drew, World.heap_drewN] at s1
      have B1_1 := h1
      have z1_0 : w.heap.size < w1.heap.size := by omega
      have q1_0 := fun o => (bcell B1_1).1 (w.heap.size) o (by go_size)
      have f1_0 := fun o => (bcell B1_1).2 (w.heap.size) o (by go_size)
      have H1 : Below w.heap.size w w1 := bthen (by repeat' (first | (with_reducible exact Below.refl _ _) | (with_reducible assumption) | (with_reducible refine bdrawn ?_ _) | (with_reducible refine Below.alloc ?_ ?_ _) | (with_reducible refine Below.drew ?_) | (with_reducible refine Below.setCell ?_ ?_ _) | go_size)) h1 (by go_size)
      have C1 := (bcell H1).1; have F1 := (bcell H1).2
      go_wp2_with fail
      refine (laws_szIntS _ _ _ _ _ _ r1 (by omega) M2.out f2).mono ?_
      rintro e w2 ⟨rfl, h2⟩
      have s2 := h2.size
      try simp only [World.size_alloc, World.size_setCell, World.size_drew, World.heap_drewN] at s2
      have B2_1 := bnext (by first | (with_reducible exact B1_1) | exact (bgrow B1_1 (by go_size) (by repeat' (first | (with_reducible exact Below.refl _ _) | (with_reducible assumption) | (with_reducible refine bdrawn ?_ _) | (with_reducible refine Below.alloc ?_ ?_ _) | (with_reducible refine Below.drew ?_) | (with_reducible refine Below.setCell ?_ ?_ _) | go_size)))) h2 (by go_size)
      have z2_0 : w.heap.size < w2.heap.size := by omega
      have q2_0 := fun o => (bcell B2_1).1 (w.heap.size) o (by go_size)
      have f2_0 := fun o => (bcell B2_1).2 (w.heap.size) o (by go_size)
      have H2 : Below w.heap.size w w2 := bthen (by repeat' (first | (with_reducible exact Below.refl _ _) | (with_reducible assumption) | (with_reducible refine bdrawn ?_ _) | (with_reducible refine Below.alloc ?_ ?_ _) | (with_reducible refine Below.drew ?_) | (with_reducible refine Below.setCell ?_ ?_ _) | go_size)) h2 (by go_size)
      have C2 := (bcell H2).1; have F2 := (bcell H2).2
      go_wp2_with fail
      go_ret
      exact ⟨ret_int hv, H2⟩
  · have f1 := szI_no (show l < ((n + sumC es : Nat) : Int) by omega)
    rw [szI_no (by omega)] at hv
    go_enter Try.func10, Try.ntmps10
    go_wp2_with fail
    refine (laws_szCellS _ _ _ es _ _ _ (hHC.out _) h0 h2 f1).mono ?_
    rintro e w1 ⟨rfl, h1⟩
    have s1 := h1.size
    try simp only [World.size_alloc, World.size_setCell, World.size_drew, World.heap_drewN] at s1
    have B1_1 := h1
    have z1_0 : w.heap.size < w1.heap.size := by omega
    have q1_0 := fun o => (bcell B1_1).1 (w.heap.size) o (by go_size)
    have f1_0 := fun o => (bcell B1_1).2 (w.heap.size) o (by go_size)
    have H1 : Below w.heap.size w w1 := bthen (by repeat' (first | (with_reducible exact Below.refl _ _) | (with_reducible assumption) | (with_reducible refine bdrawn ?_ _) | (with_reducible refine Below.alloc ?_ ?_ _) | (with_reducible refine Below.drew ?_) | (with_reducible refine Below.setCell ?_ ?_ _) | go_size)) h1 (by go_size)
    have C1 := (bcell H1).1; have F1 := (bcell H1).2
    go_wp2_with fail
    go_ret
    exact ⟨ret_int hv, H1⟩
set_option maxHeartbeats 400000 in
theorem laws_toCell (a : Option Addr) (n c : Nat) (zs : List Int) (p : Bool) (w : World) (ha : IsInts .i64 w a n c zs) (hs : n ≤ 1048576) :
    Calls Try.prog 75 #[.agg #[.slice a n c, .bool p]] w fun e w' => ∃ (a' : Option Addr) (c' : Nat), e = .returned (.agg #[.slice a' n c', .bool p]) ∧ w'.ownsRow w.heap.size 3 1 (.slice a' n c') n (zs.map (.int .i64)) ∧ Below w.heap.size w w' := by
  have HA := hide ha
  clear ha
  go_enter Try.func75, Try.ntmps75
  go_wp2_with fail
  refine (laws_toIntS a n c zs _ (HA.out.below (B := w.heap.size) (by go_grown) (Nat.le_refl _)) hs).mono ?_
  rintro e w1 ⟨a1, c1, rfl, o1, h1⟩
  have s1 := h1.size
  simp only [World.size_alloc] at s1
  have z0 : w.heap.size < w1.heap.size := by omega
  have z1 : w.heap.size + 1 < w1.heap.size := by omega
  have z2 : w.heap.size + 1 + 1 < w1.heap.size := by omega
  have q0 := fun o => (bcell h1).1 w.heap.size o (by go_size)
  have q1 := fun o => (bcell h1).1 (w.heap.size + 1) o (by go_size)
  have q2 := fun o => (bcell h1).1 (w.heap.size + 1 + 1) o (by go_size)
  have f1 := fun o => (bcell h1).2 (w.heap.size + 1) o (by go_size)
  have f2 := fun o => (bcell h1).2 (w.heap.size + 1 + 1) o (by go_size)
  have hO := hide o1
  have H1 : Below w.heap.size w w1 := bthen (by go_grown) h1 (by go_size)
  clear o1
  go_wp2_with fail
  refine bodyPost_ret (by simp [results, Try.results75, go_sem, *]; try rfl) rfl ?_
  refine ⟨a1, c1, rfl, ?_, by go_grown⟩
  refine own_base (own_set (own_set (own_set (own_set hO.out ?_ _) ?_ _) ?_ _) ?_ _) ?_
  all_goals (simp only [World.size_alloc]; omega)
theorem info_Cell : (Try.prog.info? 70).map (fun i => (i.zero, i.size, i.bytes)) = some (some (.agg #[.slice none 0 0, .bool false]), 2, 32) := by kernel_rfl
theorem own_hi' {lo hi n c : Nat} {w : World} {E : TypeId} {sz : Nat} {g : Nat} {xs : List Value} (h : w.ownsRow lo E sz (.slice (some ⟨g, 0, none⟩) n c) n xs) (hg : g < hi) : Owned lo hi w E sz (some ⟨g, 0, none⟩) n c xs :=
  ⟨h, fun x hx => by injection hx with hx; subst hx; exact hg⟩
def zeroC : Cl := ⟨⟨none, 0, 0⟩, [], false⟩
theorem zero_flat (m : Nat) : (List.replicate m zeroC).flatMap clF = (List.replicate m [Value.slice none 0 0, .bool false]).flatten := by
  induction m with
  | zero => rfl
  | succ m ih => rw [List.replicate_succ, List.flatMap_cons, ih, List.replicate_succ, List.flatten_cons]; rfl
theorem Sep.allnil {lo hi : Nat} {w : World} {o : Option Addr} {rs : List (Hd × List Int)} (h : ∀ r ∈ rs, r = nilR) : Sep lo hi w o rs :=
  ⟨fun r hr => by rw [h r hr]; exact OwnI.nil _ _ _, List.pairwise_of_forall_mem_list (fun r hr s _ => by rw [h r hr]; exact Apart.none_left _), fun r hr => by rw [h r hr]; exact Apart.none_left _⟩
/-- Cells in new memory, alike in content to these. -/
def FreshC (w : World) (n : Nat) (cs : List (List Int × Bool)) (e : Ending) (w' : World) : Prop :=
  ∃ a c es, e = .returned (.slice a n c) ∧ OwnAr w.heap.size w'.heap.size w' (arCells a n c es) ∧ es.map conC = cs ∧ Below w.heap.size w w'
set_option maxRecDepth 100000 in
set_option maxHeartbeats 1000000 in
theorem laws_toCellS (a : Option Addr) (n c : Nat) (es : List Cl) (w : World) (hn : IsCells w a n c es) (hsz : n ≤ 1048576) (hall : ∀ e ∈ es, e.h.n ≤ 1048576) :
    Calls Try.prog 42 #[.slice a n c] w (FreshC w n (es.map conC)) := by
  obtain ⟨i0, hi, hz0, hz1, hz2⟩ := info_parts info_Cell
  have HN := hide hn.1; have HI := hide hn.2; have HL := hide hn.1.1; have HALL := hide hall
  have hc := hn.1.2.1; have hm : c ≤ 9223372036854775807 := hn.1.2.2.1
  clear hn hall
  go_enter Try.func42, Try.ntmps42
  go_wp2_with (at_make; refine wpList_make_full _ rfl _ _ 32 rfl w.heap.size 70 i0 _ 2 Try.underlying32 hi hz0 hz1 _ _ _ _ n rfl rfl rfl rfl (by rw [hz2]; omega) (by unfold maxLen; omega) (Nat.le_refl _) ?_; intro w0 hown hg; have hb0 : Below w.heap.size w w0 := (Below.refl _ _).grown hg (Nat.le_refl _) (fun k h => by cases h))
  have hw0 : w.heap.size < w0.heap.size := (hown.lt w.heap.size rfl).2
  go_loopw [4] (fun i wr => ∃ (k : Nat) (gs : List Cl), k ≤ n ∧ i = .int .i64 k ∧ Below w.heap.size w wr ∧ w.heap.size < wr.heap.size ∧ gs.length = k ∧ gs.map conC = (es.take k).map conC ∧ OwnAr w.heap.size wr.heap.size wr (arCells (some ⟨w.heap.size, 0, none⟩) n n (gs ++ List.replicate (n - k) zeroC))) (fun i _ => n - (intOf i).toNat)
  case atStart =>
    refine ⟨0, [], by omega, rfl, hb0, hw0, rfl, by simp, ?_, Sep.allnil fun r hr => ?_⟩
    · have h1 := hown
      rw [made_row (sz := 2) _ rfl, show (Value.agg #[.slice none 0 0, .bool false]).cells.toList = [.slice none 0 0, .bool false] from rfl] at h1
      refine own_hi' ?_ hw0
      rw [List.nil_append, Nat.sub_zero]
      show w0.ownsRow w.heap.size 70 2 (.slice (some ⟨w.heap.size, 0, none⟩) n n) n ((List.replicate n zeroC).flatMap clF)
      rw [zero_flat]; exact h1
    · simp only [Ar.rows, arCells, List.nil_append, List.mem_cons, List.map_replicate, List.mem_replicate] at hr
      rcases hr with rfl | rfl | ⟨_, rfl⟩ <;> rfl
  case round =>
    clear hown hg hb0 hw0
    obtain ⟨k, gs, hk, rfl, hB, hsz', hgl, hgc, hown⟩ := hrel
    by_cases hlt : k < n
    · obtain ⟨e, b1, o1, he, rfl, hlb, hcell⟩ := HN.out.get clF_len (by omega) hlt
      have e0 : wr.cell? ⟨b1, o1 + k * 2, none⟩ = some (.slice e.h.a e.h.n e.h.c) := (hB.cell (p := ⟨b1, o1 + (k * 2 + 0), none⟩) hlb).trans (hcell 0 _ rfl)
      have e1 : wr.cell? ⟨b1, o1 + k * 2 + 1, none⟩ = some (.bool e.p) := (hB.cell (p := ⟨b1, o1 + (k * 2 + 1), none⟩) hlb).trans (hcell 1 _ rfl)
      have i0 : (0 : Int) ≤ (k : Int) := by omega
      have i1 : (k : Int) < (n : Int) := by omega
      have HO := hide hown
      have Hgl := hide hgl; have Hgc := hide hgc; have HE := hide he
      have hhn := HALL.out e (List.mem_of_getElem? he)
      have HR := hide ((HI.out e (List.mem_of_getElem? he)).below hB (Nat.le_refl _))
      clear hown hgl hgc hcell he
      go_wp2_with fail
      refine (laws_toCell _ _ _ e.ws e.p _ HR.out hhn).mono ?_
      rintro r w1 ⟨a1, c1, rfl, ho1, h1⟩
      have hs1 := h1.size
      have hB1 : Below w.heap.size w w1 := bthen hB h1 (by omega)
      have hnew := OwnI.of_own ho1 HR.out.2.2.2.1
      have hap := (HO.out.below h1 (Nat.le_refl _)).apart_new (a := a1) (Nat.le_refl _) (fun x hx => (hnew.1.lt hx).1)
      have hO1 := ((HO.out.below h1 (Nat.le_refl _)).wide (Nat.le_refl _) hs1)
      have hat : (gs ++ List.replicate (n - k) zeroC)[k]? = some zeroC := by
        rw [List.getElem?_append_right (by rw [Hgl.out]; exact Nat.le_refl _), Hgl.out, Nat.sub_self, List.getElem?_replicate, if_pos (by omega)]
      have hO2 := hide (hO1.syms rfl hat (r := (⟨a1, e.h.n, c1⟩, e.ws)) (hnew.wide (by omega) (Nat.le_refl _)) hap.1 hap.2)
      have hO3 := hide (hO2.out.flag rfl (i := k) (e := ⟨⟨a1, e.h.n, c1⟩, e.ws, false⟩) (by simp only [arCells, zeroC]; rw [List.getElem?_set_self (by simp [Hgl.out]; omega)]) e.p)
      obtain ⟨u0, c0⟩ : ∃ u, w1.cell? ⟨w.heap.size, k * 2, none⟩ = some u := ⟨_, (hO1.outer.1.cellAt (k * 2) (by show k * 2 < n * 2; omega)).trans (List.getElem?_eq_getElem (by rw [hO1.outer.1.1]; show k * 2 < n * 2; omega))⟩
      obtain ⟨u1, c2⟩ : ∃ u, w1.cell? ⟨w.heap.size, k * 2 + 1, none⟩ = some u := ⟨_, (hO1.outer.1.cellAt (k * 2 + 1) (by show k * 2 + 1 < n * 2; omega)).trans (List.getElem?_eq_getElem (by rw [hO1.outer.1.1]; show k * 2 + 1 < n * 2; omega))⟩
      have fr := fun j => hO1.outer.1.frozenAt j
      clear hO1 ho1 hnew hap HO
      go_wp2
      go_roundw
      case rel =>
        refine ⟨k + 1, gs ++ [⟨⟨a1, e.h.n, c1⟩, e.ws, e.p⟩], by omega, by go_num, by go_grown, by simp [World.setCell]; omega, by simp [Hgl.out], by rw [List.map_append, Hgc.out, take_snoc HE.out, List.map_append]; rfl, ?_⟩
        have := hO3.out
        simp only [arCells, List.set_set] at this ⊢
        have hx : (gs ++ List.replicate (n - k) zeroC).set k ⟨⟨a1, e.h.n, c1⟩, e.ws, e.p⟩ = gs ++ [⟨⟨a1, e.h.n, c1⟩, e.ws, e.p⟩] ++ List.replicate (n - (k + 1)) zeroC := by
          rw [List.set_append_right _ _ (by rw [Hgl.out]; exact Nat.le_refl _), Hgl.out, Nat.sub_self, show n - k = (n - (k + 1)) + 1 by omega, List.replicate_succ, List.set_cons_zero, List.append_assoc, List.singleton_append]
        rw [hx] at this
        rw [World.size_setCell, World.size_setCell]
        exact this
      case measure => simp [intOf]; omega
    · go_wp2
      go_ret
      obtain rfl : k = n := by omega
      rw [List.take_of_length_le (by rw [HL.out]; exact Nat.le_refl _)] at hgc
      rw [Nat.sub_self, List.replicate_zero, List.append_nil] at hown
      exact ⟨_, _, gs, rfl, hown, hgc, hB⟩
end Go.Proofs.Ytkhcepmileiejaa
