/- The next slot of a tenant is the first one that belongs to it: for every drawn input FnNextSlot answers true. No condition. -/
import Derived.Test.YtahfbhfmhccgoaaDrawBatch
import Derived.Test.YtahfbhfmhccgoaaNextP
import Derived.Test.YtahfbhfmhccgoaaKeep
set_option linter.unusedSimpArgs false
set_option linter.unusedVariables false
namespace Go.Proofs.Ytahfbhfmhccgoaa
open Go.RowKit Go.ChangeShapes Go.WideShapes Go.ChangeAt Go.Joins Go.Deep
open Go.ChangeMaps (open_string shut_string)
theorem impl_NextSlot_is (a : Option Addr) (n c : Nat) (zs : List Int) (l tn t b : Int) (h : nextSlot zs l tn t = b) (w : World) (ha : IsInts .i64 w a n c zs) (hs : n ≤ 1048576) :
    Calls Try.prog 28 #[.agg #[.slice a n c, .int .i64 l], .int .i64 tn, .int .i64 t] w fun e w' => e = .returned (.int .i64 b) ∧ Below w.heap.size w w' := by subst h; exact impl_NextSlot a n c zs l tn t w ha hs
theorem impl_OwnerAt_is (a : Option Addr) (n c : Nat) (zs : List Int) (l t o : Int) (h : ownerAt zs l t = o) (w : World) (htb : t ≤ 9223372036854775807) (ha : IsInts .i64 w a n c zs) (hs : n ≤ 1048576) :
    Calls Try.prog 30 #[.agg #[.slice a n c, .int .i64 l], .int .i64 t] w fun e w' => e = .returned (.int .i64 o) ∧ Below w.heap.size w w' := by subst h; exact impl_OwnerAt a n c zs l t w htb ha hs
theorem slots_ok {zs : List Int} {l : Int} {m : Nat} (h1 : zs.length = m) (h2 : 1 ≤ m) (h3 : m ≤ 6) (h4 : ∀ z ∈ zs, 0 ≤ z ∧ z ≤ 2) (h5 : 20 ≤ l) (h6 : l ≤ 29) : slotsOkB zs l = true := by
  simp only [slotsOkB, Bool.and_eq_true, List.all_eq_true, btw_true]
  exact ⟨fun z hz => by have := h4 z hz; omega, ⟨by omega, by omega⟩, by omega, by omega⟩
/-- The k-th of twelve drawn numbers. -/
theorem place_at {w : World} {B : Nat} {a : Option Addr} {c : Nat} {ps : List Int} (h : w.ownsRow B 3 1 (.slice a 12 c) 12 (ps.map (.int .i64))) (hl : ps.length = 12) (hb : ∀ z ∈ ps, 0 ≤ z ∧ z ≤ 9999) (k : Nat) (hk : k < 12) :
    ∃ g x, a = some ⟨g, 0, none⟩ ∧ B ≤ g ∧ g < w.heap.size ∧ ps[k]? = some x ∧ 0 ≤ x ∧ x ≤ 9999 ∧ w.cell? ⟨g, k, none⟩ = some (.int .i64 x) := by
  obtain ⟨g, rfl, h1, h2, h3⟩ := own_some h (by omega)
  have hx : ps[k]? = some (ps[k]'(by omega)) := List.getElem?_eq_getElem _
  have := hb _ (List.mem_of_getElem? hx)
  exact ⟨g, _, rfl, h1, h2, hx, this.1, this.2, (h3 k (by omega)).trans (by rw [List.getElem?_map, hx]; rfl)⟩
theorem rowLit (w : World) (cs : List Value) (T : TypeId) {cs' : Array Value} (h : cs' = cs.toArray) : RowIn (w.alloc (.cells cs' T)) (some ⟨w.heap.size, 0, none⟩) cs := by
  subst h
  exact fun i v hv => ⟨w.heap.size, 0, rfl, by rw [Nat.zero_add, World.cell?_alloc_new]; simpa using hv⟩
set_option maxRecDepth 100000 in
set_option maxHeartbeats 4000000 in
theorem FnNextSlot_walk (a : Option Addr) (n c : Nat) (zs : List Int) (w : World) (ha : IsInts .u8 w a n c zs) :
    Calls Try.prog 6 #[.slice a n c] w fun e w' => e = .returned (.bool true) ∧ Below w.heap.size w w' := by
  have hm : c ≤ 9223372036854775807 := ha.2.2.1
  have hc := ha.2.1
  by_cases hs : n ≤ 1048576
  · have HA := hide ha
    clear ha
    go_enter Try.func6, Try.ntmps6
    go_wp2_with fail
    refine (laws_big a n c _ hs).mono ?_
    rintro e w' ⟨rfl, rfl⟩
    go_wp2_with fail
    refine (spec_DrawBatch a n c _ _ HA.out hs).mono ?_
    rintro e v1 ⟨g, mo, mh, a1, m1, c1, os, l, a2, m2, c2, es, hgo, hg1, hg2, mo0, mo1, hm1, hm6, hl0, hl1, hm13, rfl, hI, hob, hE, hbk, hV⟩
    have HI := hide hI
    have HOK := hide (slots_ok hI.1 hm1 hm6 hob hl0 hl1)
    clear hI hob hE hbk hgo
    have hs1 : m1 ≤ 1048576 := by omega
    go_wp2_with fail
    refine (spec_DrawPlaces a n c zs _ (HA.out.below (bthen hV (by go_grown) hV.size) (Nat.le_refl _)) hs).mono ?_
    rintro e w1 ⟨ap, cp, ps, rfl, o1, hpl, hpb, h1⟩
    have s1 := h1.size
    try simp only [World.size_alloc, World.size_setCell, World.size_drew, World.heap_drewN] at s1
    have B1_1 := h1
    have z1_0 : v1.heap.size < w1.heap.size := by omega
    have q1_0 := fun o => (bcell B1_1).1 (v1.heap.size) o (by go_size)
    have f1_0 := fun o => (bcell B1_1).2 (v1.heap.size) o (by go_size)
    have z1_1 : v1.heap.size + 1 < w1.heap.size := by omega
    have q1_1 := fun o => (bcell B1_1).1 (v1.heap.size + 1) o (by go_size)
    have f1_1 := fun o => (bcell B1_1).2 (v1.heap.size + 1) o (by go_size)
    have z1_2 : v1.heap.size + 1 + 1 < w1.heap.size := by omega
    have q1_2 := fun o => (bcell B1_1).1 (v1.heap.size + 1 + 1) o (by go_size)
    have f1_2 := fun o => (bcell B1_1).2 (v1.heap.size + 1 + 1) o (by go_size)
    have H1 : Below v1.heap.size v1 w1 := bthen (by repeat' (first | (with_reducible exact Below.refl _ _) | (with_reducible assumption) | (with_reducible refine bdrawn ?_ _) | (with_reducible refine Below.alloc ?_ ?_ _) | (with_reducible refine Below.drew ?_) | (with_reducible refine Below.setCell ?_ ?_ _) | go_size)) h1 (by go_size)
    have C1 := (bcell H1).1; have F1 := (bcell H1).2
    have p := hide (Owned.of_own o1)
    clear o1
    obtain ⟨gp, x0, rfl, hgp0, hgp1, HX0, x0l, x0h, k0⟩ := place_at p.out.1 hpl hpb 0 (by omega)
    obtain ⟨gp', x1, hgp', _, _, HX1, x1l, x1h, k1⟩ := place_at p.out.1 hpl hpb 1 (by omega)
    obtain rfl : gp = gp' := by injection hgp' with e; injection e
    have HP := hide (And.intro HX0 HX1)
    clear HX0 HX1 hpl hpb hgp'
    have t0 : 0 ≤ x0 % 3 := Int.emod_nonneg _ (by omega)
    have t1 : x0 % 3 ≤ 2 := by omega
    have u0 : 0 ≤ x1 % 500 := Int.emod_nonneg _ (by omega)
    have u1 : x1 % 500 ≤ 499 := by omega
    go_wp2_with fail
    obtain ⟨X, rfl⟩ : ∃ W : World, W = w1 := ⟨_, rfl⟩
    have e0 : X.cell? ⟨v1.heap.size + 1 + 1, 0, none⟩ = some (.slice a1 m1 c1) := by rw [q1_2]; exact cell_blk (alloc_at _ _ _ (by go_size)) 0
    have e1 : X.cell? ⟨v1.heap.size + 1 + 1, 1, none⟩ = some (.int .i64 l) := by rw [q1_2]; exact cell_blk (alloc_at _ _ _ (by go_size)) 1
    have HX : Hid (Below w.heap.size w X) := bthen hV H1 hV.size
    have HIX := hide (HI.out.below H1 (Nat.le_refl _))
    have hsX : v1.heap.size + 1 + 1 < X.heap.size := by omega
    have hwX := HX.out.size
    clear q1_0 q1_1 q1_2 f1_0 f1_1 f1_2 C1 F1 H1 h1 B1_1 HI p z1_0 z1_1 z1_2 s1 k0 k1
    generalize v1.heap.size + 1 + 1 = sb at e0 e1 hsX ⊢
    generalize x0 % 3 = T at t0 t1 ⊢
    generalize x1 % 500 = at' at u0 u1 ⊢
    have hmc := HIX.out.2.1; have hmm : c1 ≤ 9223372036854775807 := HIX.out.2.2.1
    obtain ⟨b, hb⟩ : ∃ b, nextSlot os l T at' = b := ⟨_, rfl⟩
    have HB := hide hb
    clear hb
    by_cases hneg : b < 0
    · have HN := hide (next_none HOK.out u0 (by omega) (by rw [HB.out]; exact hneg) at' u0)
      obtain ⟨o, ho⟩ : ∃ o, ownerAt os l at' = o := ⟨_, rfl⟩
      have HO := hide ho
      have o0 : 0 ≤ o := by rw [← ho]; exact HN.out.1
      have o1 : (o == T) = false := by have := HN.out.2; rw [ho] at this; simpa using this
      have o2 : (o != T) = true := by rw [bne, o1]; rfl
      clear ho
      go_wp2_with fail
      refine (impl_NextSlot_is _ _ _ os l T at' b HB.out _ HIX.out hs1).mono ?_
      rintro e w1 ⟨rfl, h1⟩
      have s1 := h1.size
      try simp only [World.size_alloc, World.size_setCell, World.size_drew, World.heap_drewN] at s1
      have B1_1 := h1
      have z1_0 : sb < w1.heap.size := by omega
      have q1_0 := fun o => (bcell B1_1).1 (sb) o (by go_size)
      have f1_0 := fun o => (bcell B1_1).2 (sb) o (by go_size)
      have H1 : Below X.heap.size X w1 := bthen (by repeat' (first | (with_reducible exact Below.refl _ _) | (with_reducible assumption) | (with_reducible refine bdrawn ?_ _) | (with_reducible refine Below.alloc ?_ ?_ _) | (with_reducible refine Below.drew ?_) | (with_reducible refine Below.setCell ?_ ?_ _) | go_size)) h1 (by go_size)
      have C1 := (bcell H1).1; have F1 := (bcell H1).2
      go_wp2_with fail
      refine (impl_KeepTenant _ 1 1 [⟨0, T, 0, false, 0, 0⟩] T 1 _ ⟨rfl, Nat.le_refl _, by unfold maxLen; omega, rowLit _ _ _ rfl⟩ (by omega) (by simp [keepT])).mono ?_
      rintro e w2 ⟨ak, ck, rfl, o2, h2⟩
      have s2 := h2.size
      try simp only [World.size_alloc, World.size_setCell, World.size_drew, World.heap_drewN] at s2
      have B2_1 := bnext (by first | (with_reducible exact B1_1) | exact (bgrow B1_1 (by go_size) (by repeat' (first | (with_reducible exact Below.refl _ _) | (with_reducible assumption) | (with_reducible refine bdrawn ?_ _) | (with_reducible refine Below.alloc ?_ ?_ _) | (with_reducible refine Below.drew ?_) | (with_reducible refine Below.setCell ?_ ?_ _) | go_size)))) h2 (by go_size)
      have B2_2 := h2
      have z2_0 : sb < w2.heap.size := by omega
      have q2_0 := fun o => (bcell B2_1).1 (sb) o (by go_size)
      have f2_0 := fun o => (bcell B2_1).2 (sb) o (by go_size)
      have z2_1 : w1.heap.size < w2.heap.size := by omega
      have q2_1 := fun o => (bcell B2_2).1 (w1.heap.size) o (by go_size)
      have f2_1 := fun o => (bcell B2_2).2 (w1.heap.size) o (by go_size)
      have H2 : Below X.heap.size X w2 := bthen (by repeat' (first | (with_reducible exact Below.refl _ _) | (with_reducible assumption) | (with_reducible refine bdrawn ?_ _) | (with_reducible refine Below.alloc ?_ ?_ _) | (with_reducible refine Below.drew ?_) | (with_reducible refine Below.setCell ?_ ?_ _) | go_size)) h2 (by go_size)
      have C2 := (bcell H2).1; have F2 := (bcell H2).2
      go_wp2_with fail
      refine (impl_OwnerAt_is _ _ _ os l at' o HO.out _ (by omega) (HIX.out.below H2 (Nat.le_refl _)) hs1).mono ?_
      rintro e w3 ⟨rfl, h3⟩
      have s3 := h3.size
      try simp only [World.size_alloc, World.size_setCell, World.size_drew, World.heap_drewN] at s3
      have B3_1 := bnext (by first | (with_reducible exact B2_1) | exact (bgrow B2_1 (by go_size) (by repeat' (first | (with_reducible exact Below.refl _ _) | (with_reducible assumption) | (with_reducible refine bdrawn ?_ _) | (with_reducible refine Below.alloc ?_ ?_ _) | (with_reducible refine Below.drew ?_) | (with_reducible refine Below.setCell ?_ ?_ _) | go_size)))) h3 (by go_size)
      have B3_2 := bnext (by first | (with_reducible exact B2_2) | exact (bgrow B2_2 (by go_size) (by repeat' (first | (with_reducible exact Below.refl _ _) | (with_reducible assumption) | (with_reducible refine bdrawn ?_ _) | (with_reducible refine Below.alloc ?_ ?_ _) | (with_reducible refine Below.drew ?_) | (with_reducible refine Below.setCell ?_ ?_ _) | go_size)))) h3 (by go_size)
      have z3_0 : sb < w3.heap.size := by omega
      have q3_0 := fun o => (bcell B3_1).1 (sb) o (by go_size)
      have f3_0 := fun o => (bcell B3_1).2 (sb) o (by go_size)
      have z3_1 : w1.heap.size < w3.heap.size := by omega
      have q3_1 := fun o => (bcell B3_2).1 (w1.heap.size) o (by go_size)
      have f3_1 := fun o => (bcell B3_2).2 (w1.heap.size) o (by go_size)
      have H3 : Below X.heap.size X w3 := bthen (by repeat' (first | (with_reducible exact Below.refl _ _) | (with_reducible assumption) | (with_reducible refine bdrawn ?_ _) | (with_reducible refine Below.alloc ?_ ?_ _) | (with_reducible refine Below.drew ?_) | (with_reducible refine Below.setCell ?_ ?_ _) | go_size)) h3 (by go_size)
      have C3 := (bcell H3).1; have F3 := (bcell H3).2
      go_wp2_with fail
      refine (impl_OwnerAt_is _ _ _ os l at' o HO.out _ (by omega) (HIX.out.below H3 (Nat.le_refl _)) hs1).mono ?_
      rintro e w4 ⟨rfl, h4⟩
      have s4 := h4.size
      try simp only [World.size_alloc, World.size_setCell, World.size_drew, World.heap_drewN] at s4
      have B4_1 := bnext (by first | (with_reducible exact B3_1) | exact (bgrow B3_1 (by go_size) (by repeat' (first | (with_reducible exact Below.refl _ _) | (with_reducible assumption) | (with_reducible refine bdrawn ?_ _) | (with_reducible refine Below.alloc ?_ ?_ _) | (with_reducible refine Below.drew ?_) | (with_reducible refine Below.setCell ?_ ?_ _) | go_size)))) h4 (by go_size)
      have B4_2 := bnext (by first | (with_reducible exact B3_2) | exact (bgrow B3_2 (by go_size) (by repeat' (first | (with_reducible exact Below.refl _ _) | (with_reducible assumption) | (with_reducible refine bdrawn ?_ _) | (with_reducible refine Below.alloc ?_ ?_ _) | (with_reducible refine Below.drew ?_) | (with_reducible refine Below.setCell ?_ ?_ _) | go_size)))) h4 (by go_size)
      have z4_0 : sb < w4.heap.size := by omega
      have q4_0 := fun o => (bcell B4_1).1 (sb) o (by go_size)
      have f4_0 := fun o => (bcell B4_1).2 (sb) o (by go_size)
      have z4_1 : w1.heap.size < w4.heap.size := by omega
      have q4_1 := fun o => (bcell B4_2).1 (w1.heap.size) o (by go_size)
      have f4_1 := fun o => (bcell B4_2).2 (w1.heap.size) o (by go_size)
      have H4 : Below X.heap.size X w4 := bthen (by repeat' (first | (with_reducible exact Below.refl _ _) | (with_reducible assumption) | (with_reducible refine bdrawn ?_ _) | (with_reducible refine Below.alloc ?_ ?_ _) | (with_reducible refine Below.drew ?_) | (with_reducible refine Below.setCell ?_ ?_ _) | go_size)) h4 (by go_size)
      have C4 := (bcell H4).1; have F4 := (bcell H4).2
      go_wp2_with fail
      go_ret
      exact ⟨rfl, bthen HX.out H4 hwX⟩
    · obtain ⟨p, hp1, hp2, hp3, hp4, hp5, hp6⟩ := next_some HOK.out u0 (by omega) (by rw [HB.out]; omega)
      rw [HB.out] at hp1
      rw [← hp1] at hp2 hp3 hp4 hp6
      have HP1 := hide hp1; have HP4 := hide hp4; have HP5 := hide hp5; have HP6 := hide hp6
      have r1 : b.tmod l = 0 := by rw [hp1]; exact Int.mul_tmod_left p l
      have r2 : b % l = 0 := by rw [hp1]; exact Int.mul_emod_left p l
      have r3 : ¬ l = 0 := by omega
      have r4 : 0 ≤ b := by omega
      clear hp1 hp4 hp5 hp6
      go_wp2_with fail
      refine (impl_NextSlot_is _ _ _ os l T at' b HB.out _ HIX.out hs1).mono ?_
      rintro e w1 ⟨rfl, h1⟩
      have s1 := h1.size
      try simp only [World.size_alloc, World.size_setCell, World.size_drew, World.heap_drewN] at s1
      have B1_1 := h1
      have z1_0 : sb < w1.heap.size := by omega
      have q1_0 := fun o => (bcell B1_1).1 (sb) o (by go_size)
      have f1_0 := fun o => (bcell B1_1).2 (sb) o (by go_size)
      have H1 : Below X.heap.size X w1 := bthen (by repeat' (first | (with_reducible exact Below.refl _ _) | (with_reducible assumption) | (with_reducible refine bdrawn ?_ _) | (with_reducible refine Below.alloc ?_ ?_ _) | (with_reducible refine Below.drew ?_) | (with_reducible refine Below.setCell ?_ ?_ _) | go_size)) h1 (by go_size)
      have C1 := (bcell H1).1; have F1 := (bcell H1).2
      go_wp2_with fail
      refine (impl_OwnerAt_is _ _ _ os l b T HP4.out _ (by omega) (HIX.out.below H1 (Nat.le_refl _)) hs1).mono ?_
      rintro e w2 ⟨rfl, h2⟩
      have s2 := h2.size
      try simp only [World.size_alloc, World.size_setCell, World.size_drew, World.heap_drewN] at s2
      have B2_1 := bnext (by first | (with_reducible exact B1_1) | exact (bgrow B1_1 (by go_size) (by repeat' (first | (with_reducible exact Below.refl _ _) | (with_reducible assumption) | (with_reducible refine bdrawn ?_ _) | (with_reducible refine Below.alloc ?_ ?_ _) | (with_reducible refine Below.drew ?_) | (with_reducible refine Below.setCell ?_ ?_ _) | go_size)))) h2 (by go_size)
      have z2_0 : sb < w2.heap.size := by omega
      have q2_0 := fun o => (bcell B2_1).1 (sb) o (by go_size)
      have f2_0 := fun o => (bcell B2_1).2 (sb) o (by go_size)
      have H2 : Below X.heap.size X w2 := bthen (by repeat' (first | (with_reducible exact Below.refl _ _) | (with_reducible assumption) | (with_reducible refine bdrawn ?_ _) | (with_reducible refine Below.alloc ?_ ?_ _) | (with_reducible refine Below.drew ?_) | (with_reducible refine Below.setCell ?_ ?_ _) | go_size)) h2 (by go_size)
      have C2 := (bcell H2).1; have F2 := (bcell H2).2
      go_wp2_with fail
      obtain ⟨Y, rfl⟩ : ∃ W : World, W = w2 := ⟨_, rfl⟩
      have HY := hide H2
      have f0 : Y.cell? ⟨sb, 0, none⟩ = some (.slice a1 m1 c1) := by rw [q2_0]; exact e0
      have f1 : Y.cell? ⟨sb, 1, none⟩ = some (.int .i64 l) := by rw [q2_0]; exact e1
      have hsY : sb < Y.heap.size := by omega
      have hXY := HY.out.size
      clear q1_0 q2_0 f1_0 f2_0 C1 C2 F1 F2 H1 H2 h1 h2 B1_1 B2_1 e0 e1 r1 r2
      go_loopw [11] (fun v wr => ∃ q x : Int, v = .int .i64 x ∧ Hid (x = q * l) ∧ q < p ∧ -1000 ≤ x ∧ x ≤ 100000 ∧ Below Y.heap.size Y wr) (fun v _ => (intOf v + 1000).toNat)
      case atStart => exact ⟨p - 1, b - l, rfl, hide (by rw [HP1.out, Int.sub_mul, Int.one_mul]), by omega, by omega, by omega, Below.refl _ _⟩
      case round =>
        obtain ⟨q, x, rfl, HQ, hqp, hx0, hx1, hB⟩ := hrel
        have k0 := (hB.cell (p := ⟨sb, 0, none⟩) hsY).trans f0
        have k1 := (hB.cell (p := ⟨sb, 1, none⟩) hsY).trans f1
        have hsr := hB.size
        have HIr := hide ((HIX.out.below HY.out (Nat.le_refl _)).below hB (by omega))
        have hsbr : sb < wr.heap.size := by omega
        by_cases hge : at' ≤ x
        · obtain ⟨o, ho⟩ : ∃ o, ownerAt os l x = o := ⟨_, rfl⟩
          have HO := hide ho
          have o1 : (o == T) = false := by
            have := HP5.out q hqp (by rw [← HQ.out]; exact hge)
            rw [← HQ.out, ho] at this; simpa using this
          clear ho
          go_wp2_with fail
          refine (impl_OwnerAt_is _ _ _ os l x o HO.out _ (by omega) HIr.out hs1).mono ?_
          rintro e w1 ⟨rfl, h1⟩
          have s1 := h1.size
          try simp only [World.size_alloc, World.size_setCell, World.size_drew, World.heap_drewN] at s1
          have B1_1 := h1
          have z1_0 : sb < w1.heap.size := by omega
          have q1_0 := fun o => (bcell B1_1).1 (sb) o (by go_size)
          have f1_0 := fun o => (bcell B1_1).2 (sb) o (by go_size)
          have H1 : Below wr.heap.size wr w1 := bthen (by repeat' (first | (with_reducible exact Below.refl _ _) | (with_reducible assumption) | (with_reducible refine bdrawn ?_ _) | (with_reducible refine Below.alloc ?_ ?_ _) | (with_reducible refine Below.drew ?_) | (with_reducible refine Below.setCell ?_ ?_ _) | go_size)) h1 (by go_size)
          have C1 := (bcell H1).1; have F1 := (bcell H1).2
          go_wp2_with fail
          have hB2 := bthen hB h1 (by omega)
          go_roundw
          case rel => exact ⟨q - 1, x - l, rfl, hide (by rw [HQ.out, Int.sub_mul, Int.one_mul]), by omega, by omega, by omega, hB2⟩
          case measure => simp [intOf]; omega
        · skip
          go_wp2_with fail
          refine (impl_NextSlot_is _ _ _ os l T b b HP6.out _ HIr.out hs1).mono ?_
          rintro e w1 ⟨rfl, h1⟩
          have s1 := h1.size
          try simp only [World.size_alloc, World.size_setCell, World.size_drew, World.heap_drewN] at s1
          have B1_1 := h1
          have z1_0 : sb < w1.heap.size := by omega
          have q1_0 := fun o => (bcell B1_1).1 (sb) o (by go_size)
          have f1_0 := fun o => (bcell B1_1).2 (sb) o (by go_size)
          have H1 : Below wr.heap.size wr w1 := bthen (by repeat' (first | (with_reducible exact Below.refl _ _) | (with_reducible assumption) | (with_reducible refine bdrawn ?_ _) | (with_reducible refine Below.alloc ?_ ?_ _) | (with_reducible refine Below.drew ?_) | (with_reducible refine Below.setCell ?_ ?_ _) | go_size)) h1 (by go_size)
          have C1 := (bcell H1).1; have F1 := (bcell H1).2
          go_wp2_with fail
          go_ret
          exact ⟨rfl, bthen HX.out (bthen HY.out (bthen hB H1 (by omega)) (by omega)) (by omega)⟩
  · go_enter Try.func6, Try.ntmps6
    go_wp2_with fail
    refine (laws_big_yes a n c _ hm hc hs).mono ?_
    rintro e w' ⟨rfl, rfl⟩
    go_wp2_with fail
    go_ret
    exact ⟨rfl, by go_grown⟩

set_option maxRecDepth 100000 in
theorem FnNextSlot_lifted (os : Os) (started : os.Started) (H : Type) (enc : TypeId × Value → H) :
    ReturnsInHanded {} Try.checked os 6 .any (Rows.fnNextSlotSpec.pre6 enc Try.prog Try.f6 Rows.fnNextSlotRow.domain false) (Rows.fnNextSlotSpec.post enc Try.prog Try.f6 false true false false) := by
  refine returnsInHanded_of_change (C := Try.checked) try_own started (by kernel_rfl) Try.func6
    (ChangeSpec.witness6 (enc := enc) (C := Try.checked) false ⟨#[], #[.slice none 0 0], []⟩ 8 (by kernel_rfl) (by kernel_rfl) (by kernel_rfl) (by kernel_rfl)) ?_
  intro W base args ds gs before hval0 hW _ _
  have hval : ∀ (j : Nat) t v, Try.f6.params[j]? = some t → args[j]? = some v → Value.okWide Try.prog W .any base t v := hval0
  have hW' := hW
  obtain ⟨p, q, hA0, hV, rfl, hfz, hnd⟩ := hW
  have hA : DataW.TrodAll enc Try.prog W 0 (fun _ => true) true Try.f6.params.toList args.toList ds p := hA0
  rw [Try.params6] at hA hval
  obtain ⟨v0, vs0, d0, ds0, p0, q0, hargs, rfl, rfl, h0, r0⟩ := trodAll_cons hA
  obtain ⟨rfl, rfl, rfl⟩ := trodAll_nil r0
  obtain rfl : args = #[v0] := by cases args; simp_all
  obtain ⟨rfl, rfl⟩ := trodVars_none hV
  have k0 := h0
  have lt0 : ∀ x ∈ p0, x.block < W.heap.size := by obtain ⟨m, hm⟩ := k0; exact DataW.trod_lt m _ _ _ hm
  obtain ⟨b_x0, m_x0, l_x0, rfl⟩ := okWide_slice Try.underlying22 (hval 0 22 v0 rfl rfl)
  obtain ⟨fu0, h0⟩ := h0
  obtain ⟨a_x0, n_x0, c_x0, x0, e_x0, w_x0⟩ := isBytes_of Try.underlying22 Try.underlying5 (by kernel_rfl) h0
  simp only [Value.cells, List.cons.injEq, and_true] at e_x0
  obtain ⟨q1, q2, q3⟩ : b_x0 = a_x0 ∧ m_x0 = n_x0 ∧ l_x0 = c_x0 := by simpa using e_x0
  replace q1 := q1.symm; replace q2 := q2.symm; replace q3 := q3.symm; subst q1 q2 q3
  clear hA0 hval0
  refine (FnNextSlot_walk a_x0 n_x0 c_x0 x0 W w_x0).mono fun e W' ⟨he, bel⟩ => ?_
  subst he
  exact ⟨_, rfl, _, _, _, [], _, [], hW', trodAll_mk1 (shut_bool Try.underlying4 _), (trodAll_cons_mk (Below.trod try_laidOut (by kernel_rfl) (of_decide_eq_true (by kernel_rfl)) k0 bel lt0) trodAll_mk0), rfl, bel.frame _, fun h => by cases h⟩

theorem FnNextSlot_holds : Rows.FnNextSlotSaid :=
  OpenClaim.holds_of_wide 6 Try.f6 rfl rfl rfl rfl rfl rfl rfl ⟨rfl, rfl, rfl, rfl, rfl⟩ rfl rfl rfl rfl rfl (by kernel_rfl) Try.func6 (by kernel_rfl)
    (of_decide_eq_true (by kernel_rfl)) (by unfold Func.isWrapper; rw [if_neg (of_decide_eq_false (by kernel_rfl))]; exact ⟨rfl, rfl⟩)
    (fun os started H enc _ => FnNextSlot_lifted os started H enc)
#print axioms FnNextSlot_holds
end Go.Proofs.Ytahfbhfmhccgoaa
