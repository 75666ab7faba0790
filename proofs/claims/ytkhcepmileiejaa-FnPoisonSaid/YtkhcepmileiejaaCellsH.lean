/- Arrays of cells: the marks of a whole array, and whether they are held. -/
import Derived.Test.YtkhcepmileiejaaCellsM
set_option linter.unusedSimpArgs false
set_option linter.unusedVariables false
namespace Go.Proofs.Ytkhcepmileiejaa
open Go.RowKit Go.ChangeShapes Go.WideShapes Go.ChangeAt Go.Joins Go.Deep
open Go.ChangeMaps (open_string shut_string)
set_option maxRecDepth 100000 in
set_option maxHeartbeats 1000000 in
theorem laws_heldCellS (a : Option Addr) (n c : Nat) (es : List Cl) (k0 : Int) (w : World) (hk0 : 0 ≤ k0 ∧ k0 ≤ 900000000) (hsum : n + sumC es ≤ 1048576) (hn : IsCells w a n c (markCs k0 es)) :
    Calls Try.prog 54 #[.slice a n c, .int .i64 k0] w fun e w' => e = .returned (.int .i64 (k0 + n + sumC es)) ∧ Below w.heap.size w w' := by
  have hk1 := hk0.1; have hk2 := hk0.2
  clear hk0
  have HN := hide hn.1; have HI := hide hn.2
  have HL := hide (show es.length = n by have := hn.1.1; rw [markCs_len] at this; exact this)
  have hc := hn.1.2.1; have hm : c ≤ 9223372036854775807 := hn.1.2.2.1
  clear hn
  go_enter Try.func54, Try.ntmps54
  go_wp2
  go_loopw [1, 5] (fun v i wr => ∃ k : Nat, k ≤ n ∧ i = .int .i64 k ∧ v = .int .i64 (k0 + k + sumC (es.take k)) ∧ Below w.heap.size w wr) (fun _ i _ => n - (intOf i).toNat)
  case atStart => exact ⟨0, by omega, rfl, by simp [sumC], Below.refl _ _⟩
  case round =>
    obtain ⟨k, hk, rfl, rfl, hB⟩ := hrel
    have hb := sumC_take_le es k
    by_cases hlt : k < n
    · obtain ⟨e, he⟩ : ∃ e, es[k]? = some e := ⟨_, List.getElem?_eq_getElem (by rw [HL.out]; exact hlt)⟩
      have hm1 := markCs_at es k0 k e he
      obtain ⟨f, b1, o1, hf, rfl, hlb, hcell⟩ := HN.out.get clF_len (by omega) hlt
      rw [hm1] at hf
      injection hf with hf
      subst hf
      have e0 : wr.cell? ⟨b1, o1 + k * 2, none⟩ = some (.slice e.h.a e.h.n e.h.c) := (hB.cell (p := ⟨b1, o1 + (k * 2 + 0), none⟩) hlb).trans (hcell 0 _ rfl)
      have e1 : wr.cell? ⟨b1, o1 + k * 2 + 1, none⟩ = some (.bool ((k0 + k + sumC (es.take k) + e.h.n) % 3 == 0)) := (hB.cell (p := ⟨b1, o1 + (k * 2 + 1), none⟩) hlb).trans (hcell 1 _ rfl)
      have HR := hide ((HI.out _ (List.mem_of_getElem? hm1)).below hB (Nat.le_refl _))
      have HSS := hide (sumC_snoc he)
      have hhn := sumC_at he
      have i0 : (0 : Int) ≤ (k : Int) := by omega
      have i1 : (k : Int) < (n : Int) := by omega
      have hs1 := hB.size
      have hlb1 : b1 < wr.heap.size := by omega
      clear hcell hm1 he
      go_wp2_with fail
      refine (laws_heldIntS _ _ _ _ _ (by omega) (by omega) HR.out).mono ?_
      rintro r w1 ⟨rfl, h1⟩
      have hB1 : Below w.heap.size w w1 := bthen hB h1 (by omega)
      have q1 := ((bcell h1).1 b1 (o1 + k * 2 + 1) hlb1).trans e1
      cases hq : ((k0 + k + sumC (es.take k) + e.h.n) % 3 == 0)
      all_goals
        rw [hq] at q1
        go_wp2_with fail
        go_roundw
        case rel => exact ⟨k + 1, by omega, by go_num, by rw [HSS.out]; simp; omega, hB1⟩
        case measure => simp [intOf]; omega
    · go_wp2
      go_ret
      obtain rfl : k = n := by omega
      rw [List.take_of_length_le (by rw [HL.out]; exact Nat.le_refl _)]
      exact ⟨rfl, hB⟩
/-- An array with its marks. -/
def markAr (k0 : Int) (A : Ar) : Ar :=
  ⟨A.a, A.n, A.c, markCs k0 A.es, (A.ag.1, markI (k0 + A.n + sumC A.es) A.ag.1.n), (A.ht.1, markI (k0 + A.n + sumC A.es + A.ag.1.n) A.ht.1.n)⟩
theorem OwnAr.age {lo hi : Nat} {w w' : World} {A : Ar} (h : OwnAr lo hi w A) (hs : OneW A.ag.1.a w w') {zs : List Int} (hn : OwnI lo hi w' (A.ag.1, zs)) : OwnAr lo hi w' { A with ag := (A.ag.1, zs) } :=
  ⟨h.outer.off hs (h.sep.off A.ag (by simp [Ar.rows])), by have := h.sep.write (i := 0) (r := A.ag) rfl hs hn; simpa [Ar.rows] using this⟩
theorem OwnAr.hits {lo hi : Nat} {w w' : World} {A : Ar} (h : OwnAr lo hi w A) (hs : OneW A.ht.1.a w w') {zs : List Int} (hn : OwnI lo hi w' (A.ht.1, zs)) : OwnAr lo hi w' { A with ht := (A.ht.1, zs) } :=
  ⟨h.outer.off hs (h.sep.off A.ht (by simp [Ar.rows])), by have := h.sep.write (i := 1) (r := A.ht) rfl hs hn; simpa [Ar.rows] using this⟩
set_option maxRecDepth 100000 in
set_option maxHeartbeats 1000000 in
theorem laws_markArray (lo hi : Nat) (A : Ar) (k0 : Int) (t : Nat) (w : World) (hk0 : 0 ≤ k0 ∧ k0 ≤ 900000000) (hsum : A.tot ≤ 1048576) (ht : A.tot = t) (hhi : hi ≤ w.heap.size) (ho : OwnAr lo hi w A) :
    Calls Try.prog 17 #[.agg #[.slice A.a A.n A.c, .slice A.ag.1.a A.ag.1.n A.ag.1.c, .slice A.ht.1.a A.ht.1.n A.ht.1.c], .int .i64 k0] w fun e w' => e = .returned (.int .i64 (k0 + t)) ∧ OwnAr lo hi w' (markAr k0 A) ∧ Save lo hi w w' := by
  have hk1 := hk0.1; have hk2 := hk0.2
  clear hk0
  unfold Ar.tot at hsum ht
  have HO := hide ho
  clear ho
  go_enter Try.func17, Try.ntmps17
  go_wp2_with fail
  have hb : Below w.heap.size w (w.alloc (.cells #[.slice A.a A.n A.c, .slice A.ag.1.a A.ag.1.n A.ag.1.c, .slice A.ht.1.a A.ht.1.n A.ht.1.c] 34)) := (Below.refl _ _).alloc (Nat.le_refl _) _
  refine (laws_markCellS lo hi A k0 _ ⟨hk1, hk2⟩ (by omega) (HO.out.below hb hhi)).mono ?_
  rintro e w1 ⟨rfl, o1, v1⟩
  have s1 := v1.size
  simp only [World.size_alloc] at s1
  have q1 : ∀ o, w1.cell? ⟨w.heap.size, o, none⟩ = (w.alloc (.cells #[.slice A.a A.n A.c, .slice A.ag.1.a A.ag.1.n A.ag.1.c, .slice A.ht.1.a A.ht.1.n A.ht.1.c] 34)).cell? ⟨w.heap.size, o, none⟩ := fun o => World.cell?_of_block (v1.block w.heap.size (by simp) (.inr hhi))
  have HO1 := hide o1
  have hm1 : ∀ x, A.ag.1.a = some x → lo ≤ x.block ∧ x.block < hi := fun x hx => by have := ((o1.sep.rows A.ag (by simp [Ar.rows])).1.lt hx); omega
  have HM1 := hide hm1
  have HV1 := hide v1
  clear o1 hm1 v1
  go_wp2_with fail
  refine (laws_markIntS (segLo A.ag.1.a) (segHi A.ag.1.a) _ _ _ _ _ _ (by omega) (by omega) ((HO1.out.sep.rows A.ag (by simp [Ar.rows])).1.seg)).mono ?_
  rintro e w2 ⟨rfl, o2, v2⟩
  have hs2 := OneW.save v2 HM1.out
  have HO2 := hide (HO1.out.age v2 ⟨o2.unseg HM1.out, markI_wf _ _ (by omega) (by omega) (by omega)⟩)
  have s2 := v2.size
  have q2 : ∀ o, w2.cell? ⟨w.heap.size, o, none⟩ = w1.cell? ⟨w.heap.size, o, none⟩ := fun o => World.cell?_of_block (hs2.block w.heap.size (by omega) (.inr hhi))
  have HV2 := hide (HV1.out.trans hs2)
  have hm2 : ∀ x, A.ht.1.a = some x → lo ≤ x.block ∧ x.block < hi := fun x hx => by have := ((HO2.out.sep.rows A.ht (by simp [Ar.rows])).1.lt hx); omega
  have HM2 := hide hm2
  clear o2 v2 hs2 hm2
  go_wp2_with fail
  refine (laws_markIntS (segLo A.ht.1.a) (segHi A.ht.1.a) _ _ _ _ _ _ (by omega) (by omega) ((HO2.out.sep.rows A.ht (by simp [Ar.rows])).1.seg)).mono ?_
  rintro e w3 ⟨rfl, o3, v3⟩
  have hs3 := OneW.save v3 HM2.out
  have HO3 := hide (HO2.out.hits v3 ⟨o3.unseg HM2.out, markI_wf _ _ (by omega) (by omega) (by omega)⟩)
  have HV3 := hide ((Save.of_below (lo := lo) (hi := hi) hb).trans (HV2.out.trans hs3))
  clear o3 v3 hs3
  go_wp2_with fail
  go_ret
  exact ⟨ret_int (by omega), HO3.out, HV3.out⟩
set_option maxRecDepth 100000 in
set_option maxHeartbeats 1000000 in
theorem laws_heldArray (A : Ar) (k0 : Int) (t : Nat) (w : World) (hk0 : 0 ≤ k0 ∧ k0 ≤ 900000000) (hsum : A.tot ≤ 1048576) (ht : A.tot = t) (hA : IsAr w (markAr k0 A)) :
    Calls Try.prog 23 #[.agg #[.slice A.a A.n A.c, .slice A.ag.1.a A.ag.1.n A.ag.1.c, .slice A.ht.1.a A.ht.1.n A.ht.1.c], .int .i64 k0] w fun e w' => e = .returned (.int .i64 (k0 + t)) ∧ Below w.heap.size w w' := by
  have hk1 := hk0.1; have hk2 := hk0.2
  clear hk0
  unfold Ar.tot at hsum ht
  have H4 := hide hA.1; have H5 := hide hA.2.1; have H6 := hide hA.2.2
  simp only [markAr] at H4 H5 H6
  have r1 : 0 ≤ k0 + (A.n : Int) + (sumC A.es : Int) := by omega
  have r2 : 0 ≤ k0 + (A.n : Int) + (sumC A.es : Int) + (A.ag.1.n : Int) := by omega
  have r3 : 0 ≤ k0 + (A.n : Int) + (sumC A.es : Int) + (A.ag.1.n : Int) + (A.ht.1.n : Int) := by omega
  clear hA
  go_enter Try.func23, Try.ntmps23
  go_wp2_with fail
  refine (laws_heldCellS _ _ _ A.es _ _ (by omega) (by omega) (H4.out.below (B := w.heap.size) (by go_grown) (Nat.le_refl _))).mono ?_
  rintro e w1 ⟨rfl, h1⟩
  have s1 := h1.size
  try simp only [World.size_alloc, World.size_setCell, World.size_drew, World.heap_drewN] at s1
  have B1_1 := h1
  have z1_0 : w.heap.size < w1.heap.size := by omega
  have q1_0 := fun o => (bcell B1_1).1 (w.heap.size) o (by go_size)
  have f1_0 := fun o => (bcell B1_1).2 (w.heap.size) o (by go_size)
  have H1 : Below w.heap.size w w1 := bthen (by repeat' (first | (with_reducible exact Below.refl _ _) | (with_reducible assumption) | (with_reducible refine bdrawn ?_ _) | (with_reducible refine Below.alloc ?_ ?_ _) | (with_reducible refine Below.drew ?_) | (with_reducible refine Below.setCell ?_ ?_ _) | go_size)) h1 (by go_size)
  have C1 := (bcell H1).1; have F1 := (bcell H1).2
  go_wp2_with fail
  refine (laws_heldIntS _ _ _ _ _ (by omega) (by omega) (H5.out.below (B := w.heap.size) (by go_grown) (Nat.le_refl _))).mono ?_
  rintro e w2 ⟨rfl, h2⟩
  have s2 := h2.size
  try simp only [World.size_alloc, World.size_setCell, World.size_drew, World.heap_drewN] at s2
  have B2_1 := bnext (by first | (with_reducible exact B1_1) | exact (bgrow B1_1 (by go_size) (by repeat' (first | (with_reducible exact Below.refl _ _) | (with_reducible assumption) | (with_reducible refine bdrawn ?_ _) | (with_reducible refine Below.alloc ?_ ?_ _) | (with_reducible refine Below.drew ?_) | (with_reducible refine Below.setCell ?_ ?_ _) | go_size)))) h2 (by go_size)
  have z2_0 : w.heap.size < w2.heap.size := by omega
  have q2_0 := fun o => (bcell B2_1).1 (w.heap.size) o (by go_size)
  have f2_0 := fun o => (bcell B2_1).2 (w.heap.size) o (by go_size)
  have H2 : Below w.heap.size w w2 := bthen (by repeat' (first | (with_reducible exact Below.refl _ _) | (with_reducible assumption) | (with_reducible refine bdrawn ?_ _) | (with_reducible refine Below.alloc ?_ ?_ _) | (with_reducible refine Below.drew ?_) | (with_reducible refine Below.setCell ?_ ?_ _) | go_size)) h2 (by go_size)
  have C2 := (bcell H2).1; have F2 := (bcell H2).2
  go_wp2_with fail
  refine (laws_heldIntS _ _ _ _ _ (by omega) (by omega) (H6.out.below (B := w.heap.size) (by go_grown) (Nat.le_refl _))).mono ?_
  rintro e w3 ⟨rfl, h3⟩
  have s3 := h3.size
  try simp only [World.size_alloc, World.size_setCell, World.size_drew, World.heap_drewN] at s3
  have B3_1 := bnext (by first | (with_reducible exact B2_1) | exact (bgrow B2_1 (by go_size) (by repeat' (first | (with_reducible exact Below.refl _ _) | (with_reducible assumption) | (with_reducible refine bdrawn ?_ _) | (with_reducible refine Below.alloc ?_ ?_ _) | (with_reducible refine Below.drew ?_) | (with_reducible refine Below.setCell ?_ ?_ _) | go_size)))) h3 (by go_size)
  have z3_0 : w.heap.size < w3.heap.size := by omega
  have q3_0 := fun o => (bcell B3_1).1 (w.heap.size) o (by go_size)
  have f3_0 := fun o => (bcell B3_1).2 (w.heap.size) o (by go_size)
  have H3 : Below w.heap.size w w3 := bthen (by repeat' (first | (with_reducible exact Below.refl _ _) | (with_reducible assumption) | (with_reducible refine bdrawn ?_ _) | (with_reducible refine Below.alloc ?_ ?_ _) | (with_reducible refine Below.drew ?_) | (with_reducible refine Below.setCell ?_ ?_ _) | go_size)) h3 (by go_size)
  have C3 := (bcell H3).1; have F3 := (bcell H3).2
  go_wp2_with fail
  go_ret
  exact ⟨ret_int (by omega), by go_grown⟩
end Go.Proofs.Ytkhcepmileiejaa
