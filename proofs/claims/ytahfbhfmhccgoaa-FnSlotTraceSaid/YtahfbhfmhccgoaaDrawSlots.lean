/- The drawn slots and requests, and a drawn batch. -/
import Derived.Test.YtahfbhfmhccgoaaDrawGeo
import Derived.Test.YtahfbhfmhccgoaaGeo
import Derived.Test.YtahfbhfmhccgoaaNest
import Derived.Deep.RegionLaw
set_option linter.unusedSimpArgs false
set_option linter.unusedVariables false
namespace Go.Proofs.Ytahfbhfmhccgoaa
open Go.RowKit Go.ChangeShapes Go.WideShapes Go.ChangeAt Go.Joins Go.Deep
open Go.ChangeMaps (open_string shut_string)
/-- Some slots: one to six owners, each from 0 to 2, in new memory. -/
def DrewSlots (w0 : World) (a : Option Addr) (n c b : Nat) (w : World) (e : Ending) (w' : World) : Prop :=
  ∃ (a' : Option Addr) (m c' : Nat) (zs : List Int) (l : Int), 1 ≤ m ∧ m ≤ 6 ∧ 16 ≤ l ∧ l ≤ 25 ∧ e = .returned (.agg #[.slice a' m c', .int .i64 l]) ∧ w'.ownsRow w.heap.size 3 1 (.slice a' m c') m (zs.map (.int .i64)) ∧ zs.length = m ∧ (∀ z ∈ zs, 0 ≤ z ∧ z ≤ 2) ∧ Cur w0 a n c b w' ∧ w.grownBy w' (some b)
theorem after_draw {y z : World} {r : Option Nat} (hg : (World.drew y).grownBy z r) : y.grownBy z r := ⟨hg.os, hg.tape, hg.output, hg.size, hg.block⟩
theorem slot_step {y z : World} {b x k c' : Nat} {a' : Option Addr} {cs : List Value} {l : Int} {E T : TypeId} (hg : y.grownBy z (some b)) (ho : y.ownsRow (x + 1) E 1 (.slice a' k c') k cs) (h0 : y.heap[x]? = some (.cells #[.slice a' k c', .int .i64 l] T (0, 0))) (hb : b < x) :
    z.ownsRow (x + 1) E 1 (.slice a' k c') k cs ∧ z.cell? ⟨x, 0, none⟩ = some (.slice a' k c') ∧ (∀ o, z.frozen? ⟨x, o, none⟩ = false) ∧ y.heap.size ≤ z.heap.size ∧ x < z.heap.size ∧ ¬ x = z.heap.size := by
  have h1 := (hg.block x (lt_blk h0) (by simp; omega)).trans h0
  exact ⟨ho.kept hg (own_ne ho (by omega)), cell_blk h1 0, fun o => free_blk h1 o, hg.size, lt_blk h1, by have := lt_blk h1; omega⟩
theorem slot_far {z p : World} {x k c' : Nat} {a' : Option Addr} {cs : List Value} {u : Value} {E : TypeId} {o : Obj} (hg : (z.alloc o).grownBy p (Value.slice a' k c').ownBlock) (ho : z.ownsRow (x + 1) E 1 (.slice a' k c') k cs) (hx : x < z.heap.size)
    (h0 : z.cell? ⟨x, 0, none⟩ = some u) (hf : ∀ o, z.frozen? ⟨x, o, none⟩ = false) : p.cell? ⟨x, 0, none⟩ = some u ∧ ∀ o, p.frozen? ⟨x, o, none⟩ = false := by
  have hb : p.heap[x]? = z.heap[x]? := app_block ho hg (by omega) hx rfl
  exact ⟨(World.cell?_of_block (a := ⟨x, 0, none⟩) hb).trans h0, fun o => (World.frozen?_of_block (a := ⟨x, o, none⟩) hb).trans (hf o)⟩
set_option maxRecDepth 100000 in
set_option maxHeartbeats 2000000 in
theorem spec_l23Slots (w0 : World) (a : Option Addr) (n c b : Nat) (bs : List Int) (w : World) (ha : IsInts .u8 w0 a n c bs) (hs : n ≤ 1048576) (hC0 : Cur w0 a n c b w) :
    Calls Try.prog 80 #[.pointer (some ⟨b, 0, none⟩)] w (DrewSlots w0 a n c b w) := by
  obtain ⟨i0_int, hi_int, hz0_int, hz1_int, hz2_int⟩ := info_parts info_int
  have HA := hide ha
  clear ha
  have hlb := hC0.lt
  have hwb : w0.heap.size ≤ b := by obtain ⟨_, _, _, _, _, h⟩ := hC0; exact h
  go_enter Try.func80, Try.ntmps80
  go_wp2_with fail
  refine (spec_l01Below w0 a n c b bs _ (10) HA.out hs (by omega) (by repeat (first | (with_reducible assumption) | (with_reducible refine Cur.alloc ?_ _) | (with_reducible refine Cur.drawn ?_ _) | (with_reducible refine Cur.drew ?_) | (with_reducible refine Cur.set ?_ ?_ _) | omega)) ).mono ?_
  rintro e w1 ⟨l, l_lo, l_hi, rfl, hC1, h1⟩
  have s1 := h1.size
  try simp only [World.size_alloc, World.size_setCell, World.size_drew, World.heap_drewN] at s1
  have B1_1 := h1
  have z1_0 : w.heap.size < w1.heap.size := by omega
  have q1_0 := fun o => only_cell B1_1 (b := w.heap.size) (o := o) (by go_size) (by omega)
  have f1_0 := fun o => only_free B1_1 (b := w.heap.size) (o := o) (by go_size) (by omega)
  have H1 : World.grownBy w w1 (some b) := only_next (by repeat (first | (with_reducible assumption) | (with_reducible exact only_refl _ _) | (with_reducible refine only_drawn ?_ _) | (with_reducible refine only_drew ?_) | (with_reducible refine only_alloc ?_ _) | (with_reducible refine only_setCell ?_ ?_ _) | omega)) h1
  have C1 := only_cells H1; have F1 := only_frees H1
  go_wp2_with fail
  have hG1 := hide H1
  obtain ⟨x1, rfl⟩ : ∃ W : World, W = w1 := ⟨_, rfl⟩
  have hwx : w.heap.size < x1.heap.size := by omega
  have hbx : b < x1.heap.size := by omega
  have HT := hide ((h1.block w.heap.size (by simp) (by simp; omega)).trans (alloc_at _ _ _ rfl))
  go_loopw [4] (fun i wr => ∃ (k : Nat) (a' : Option Addr) (c' : Nat) (zs : List Int), k ≤ 6 ∧ i = .int .i64 k ∧ wr.ownsRow (x1.heap.size + 1) 3 1 (.slice a' k c') k (zs.map (.int .i64)) ∧ zs.length = k ∧ (∀ z ∈ zs, 0 ≤ z ∧ z ≤ 2) ∧ Cur w0 a n c b wr ∧ w.grownBy wr (some b) ∧ x1.heap.size < wr.heap.size ∧ wr.heap[x1.heap.size]? = some (.cells #[.slice a' k c', .int .i64 (16 + l)] 48 (0, 0)) ∧ wr.heap[w.heap.size]? = some (.cells #[.slice none 0 0, .int .i64 0] 48 (0, 0))) (fun i _ => 6 - (intOf i).toNat)
  case atStart => exact ⟨0, _, _, [], by omega, rfl, World.ownsRow_nil _ _ _ _, rfl, by simp, hC1.alloc _, only_alloc hG1.out _, by simp, alloc_at _ _ _ rfl, by rw [alloc_lt _ _ _ (by omega)]; exact HT.out⟩
  case round =>
    obtain ⟨k, a', c', zs, hk, rfl, hown, hzl, hzb, hC, hG, hsz, he0, he1⟩ := hrel
    have Hzl := hide hzl; have Hzb := hide hzb; have HO := hide hown; have HE0 := hide he0; have HE1 := hide he1
    clear hzl hzb hown he0 he1
    go_wp2_with fail
    refine (spec_l01Below _ a n c b bs _ 6 HA.out hs (by omega) hC).mono ?_
    rintro e y1 ⟨x, hx0, hx1, rfl, hCy, hgy⟩
    have HOy := hide (HO.out.kept hgy (own_ne HO.out (by omega)))
    have hsy := hgy.size
    have Hy0 := hide ((hgy.block x1.heap.size (by omega) (by simp; omega)).trans HE0.out)
    have Hy1 := hide ((hgy.block w.heap.size (by omega) (by simp; omega)).trans HE1.out)
    have hGy := only_trans hG hgy
    clear HE0 HE1 HO hC hG
    by_cases hlt : (k : Int) ≤ x
    · have c0 := cell_blk Hy0.out 0; have c1 := cell_blk Hy0.out 1; have f0 := fun o => free_blk Hy0.out o
      have hBy : Below w0.heap.size w0 y1 := cur_below hCy (Below.refl _ _) (Nat.le_refl _)
      have HCy := hide hCy; have HGy := hide hGy
      have HOd := hide (show (World.drew y1).ownsRow (x1.heap.size + 1) 3 1 (.slice a' k c') k (zs.map (.int .i64)) from HOy.out.drew)
      clear hCy hGy
      go_wp2_with fail
      go_region_law (first
        | (go_simp; go_at_call 64; refine (spec_l01Below _ a n c b bs _ 3 HA.out hs (by omega) HCy.out.drew).mono ?_; rintro e z1 ⟨z, hz0, hz1, rfl, hCz, hgz⟩; replace hgz := after_draw hgz; obtain ⟨hOz, k0, kf, hsz1, hxz, hxn⟩ := slot_step hgz HOy.out Hy0.out hbx)
        | (refine step_append_lies _ (by rfl) _ _ _ (by rfl) (x1.heap.size + 1) 3 i0_int _ 1 8 Try.underlying46 hi_int hz0_int hz1_int hz2_int rfl (by omega) _ _ _ (by rfl) (hOz.alloc _) ⟨z1.heap.size, 0, none⟩ 1 1 [.int .i64 z] (by rfl) (by rfl) (World.news_of_block (cs := #[.int .i64 z]) (t := 3) (fr := (0, 0)) (heap_alloc_new _ _)) (List.all_eq_true.1 rfl) (by omega) (by unfold maxLen; omega) (by omega) (by first | go_size | (simp; omega)) (z1.heap.size + 1) (by simp) ?_; intro gp cp wp hownp hgp hatp hltp; obtain ⟨kp, kpf⟩ := slot_far hgp hOz (by omega) k0 kf))
      all_goals
        have HZ0 := hide ((hgz.block x1.heap.size (by omega) (by simp; omega)).trans Hy0.out)
        have HZ1 := hide ((hgz.block w.heap.size (by omega) (by simp; omega)).trans Hy1.out)
        have HP0 := hide (app_block hOz hgp (by omega) hxz HZ0.out)
        have HP1 := hide (app_block hOz hgp (by omega) (by omega) HZ1.out)
        have HCp := hide (hCz.app hOz (by omega) hgp)
        have HGp := hide (only_grow_own (only_alloc (only_trans HGy.out hgz) _) hgp (fun q hq => Nat.le_trans (by omega) (hOz.lt q hq).1))
        have HOp := hide hownp
        have hsp := hgp.size
        simp only [World.size_alloc] at hsp
        have hxw : w.heap.size ≤ x1.heap.size := by omega
        clear hCz hgz hgp hatp hltp hownp hOz k0 kf kp kpf
        go_wp2
        go_roundw
        case rel => exact ⟨k + 1, _, _, zs ++ [z], by omega, by go_num, own_set (by simpa using HOp.out) (by omega) _, by simp [Hzl.out], by intro u hu; simp at hu; rcases hu with hu | rfl; exact Hzb.out u hu; omega, HCp.out.set (by omega) _, only_setCell HGp.out (.inr hxw) _, by go_size, set_lit HP0.out rfl, by rw [heap_set_other _ _ _ _ _ (by omega)]; exact HP1.out⟩
        case measure => simp [intOf]; omega
    · have c0 := cell_blk Hy0.out 0; have c1 := cell_blk Hy0.out 1; have d0 := cell_blk Hy1.out 0; have d1 := cell_blk Hy1.out 1; have f1 := fun o => free_blk Hy1.out o
      have n1 : ¬ w.heap.size = x1.heap.size := by omega
      have n2 : ¬ x1.heap.size = w.heap.size := by omega
      have hk1 : 1 ≤ k := by omega
      go_wp2_with fail
      refine bodyPost_ret (by simp [results, Try.results80, go_sem, *]; try rfl) rfl ?_
      exact ⟨_, k, _, zs, 16 + l, hk1, hk, by omega, by omega, rfl, own_base (own_set (own_set HOy.out (by omega) _) (by omega) _) (by omega), Hzl.out, Hzb.out, (by repeat (first | (with_reducible assumption) | (with_reducible refine Cur.alloc ?_ _) | (with_reducible refine Cur.drawn ?_ _) | (with_reducible refine Cur.drew ?_) | (with_reducible refine Cur.set ?_ ?_ _) | omega)), (by repeat (first | (with_reducible assumption) | (with_reducible exact only_refl _ _) | (with_reducible refine only_drawn ?_ _) | (with_reducible refine only_drew ?_) | (with_reducible refine only_alloc ?_ _) | (with_reducible refine only_setCell ?_ ?_ _) | omega))⟩
theorem own_set_off {w : World} {base g o : Nat} {e : TypeId} {size n : Nat} {v : Value} {xs : List Value} (h : w.ownsRow base e size v n xs) (hg : ∀ q, v.ownBlock = some q → q ≠ g) (u : Value) : (w.setCell ⟨g, o, none⟩ u).ownsRow base e size v n xs :=
  h.kept (row := some g) (only_set (only_refl _ _) _) (by
    cases hv : v.ownBlock with
    | none => exact .inl rfl
    | some q => exact .inr (fun e => hg q hv (by injection e)))
/-- Requests of a batch: the i-th has an id from 1 + 3i to 3 + 3i. -/
def BatchOk (lines : Int) (es : List Rq) : Prop := ∀ (i : Nat) (e : Rq), es[i]? = some e → 1 + 3 * (i : Int) ≤ e.id ∧ e.id ≤ 3 + 3 * (i : Int) ∧ 0 ≤ e.tenant ∧ e.tenant ≤ 2 ∧ 0 ≤ e.line ∧ e.line ≤ max (lines - 1) 0 ∧ 0 ≤ e.tm ∧ e.tm ≤ 299
theorem BatchOk.snoc {lines : Int} {es : List Rq} {e : Rq} {k : Nat} (h : BatchOk lines es) (hl : es.length = k) (he : 1 + 3 * (k : Int) ≤ e.id ∧ e.id ≤ 3 + 3 * (k : Int) ∧ 0 ≤ e.tenant ∧ e.tenant ≤ 2 ∧ 0 ≤ e.line ∧ e.line ≤ max (lines - 1) 0 ∧ 0 ≤ e.tm ∧ e.tm ≤ 299) : BatchOk lines (es ++ [e]) := by
  subst hl
  intro i f hf
  by_cases hi : i < es.length
  · rw [List.getElem?_append_left hi] at hf; exact h i f hf
  · rw [List.getElem?_append_right (by omega)] at hf
    have : i - es.length = 0 := by have := (List.getElem?_eq_some_iff.1 hf).1; simp at this; omega
    rw [this] at hf; simp at hf; subst hf
    rw [show (i : Int) = es.length by omega]; exact he
def DrewList (w0 : World) (a : Option Addr) (n c b : Nat) (lines : Int) (w : World) (e : Ending) (w' : World) : Prop :=
  ∃ (a' : Option Addr) (m c' : Nat) (es : List Rq), m ≤ 13 ∧ e = .returned (.slice a' m c') ∧ w'.ownsRow w.heap.size 41 6 (.slice a' m c') m (es.flatMap rqF) ∧ es.length = m ∧ BatchOk lines es ∧ Cur w0 a n c b w' ∧ w.grownBy w' (some b)
set_option maxRecDepth 100000 in
set_option maxHeartbeats 2000000 in
theorem spec_l23List (w0 : World) (a : Option Addr) (n c b : Nat) (bs : List Int) (w : World) (lines : Int) (ha : IsInts .u8 w0 a n c bs) (hs : n ≤ 1048576) (hl : lines ≤ 1000000) (hC0 : Cur w0 a n c b w) :
    Calls Try.prog 82 #[.pointer (some ⟨b, 0, none⟩), .int .i64 lines] w (DrewList w0 a n c b lines w) := by
  obtain ⟨i0_Rq, hi_Rq, hz0_Rq, hz1_Rq, hz2_Rq⟩ := info_parts info_Rq
  have HA := hide ha
  clear ha
  have hlb := hC0.lt
  have hwb : w0.heap.size ≤ b := by obtain ⟨_, _, _, _, _, h⟩ := hC0; exact h
  go_enter Try.func82, Try.ntmps82
  go_wp2_with fail
  go_loopw [5, 6] (fun v i wr => ∃ (k : Nat) (a' : Option Addr) (c' : Nat) (es : List Rq), k ≤ 13 ∧ i = .int .i64 k ∧ v = .slice a' k c' ∧ wr.ownsRow w.heap.size 41 6 (.slice a' k c') k (es.flatMap rqF) ∧ es.length = k ∧ BatchOk lines es ∧ Cur w0 a n c b wr ∧ w.grownBy wr (some b) ∧ w.heap.size ≤ wr.heap.size) (fun _ i _ => 13 - (intOf i).toNat)
  case atStart => exact ⟨0, _, _, [], by omega, rfl, rfl, own_made_at rfl (by simp), rfl, fun i e h => by simp at h, hC0.alloc _, only_alloc (only_refl _ _) _, by simp⟩
  case round =>
    obtain ⟨k, a', c', es, hk, rfl, rfl, hown, hel, hbk, hC, hG, hsz⟩ := hrel
    have HO := hide hown; have HL := hide hel; have HK := hide hbk
    clear hown hel hbk
    go_wp2_with fail
    refine (spec_l01Below _ a n c b bs _ 14 HA.out hs (by omega) hC).mono ?_
    rintro e y1 ⟨x, hx0, hx1, rfl, hCy, hgy⟩
    have HOy := hide (HO.out.kept hgy (own_ne HO.out (by omega)))
    have hsy := hgy.size
    have hGy := hide (only_trans hG hgy)
    clear HO hC hG hgy
    by_cases hlt : (k : Int) < x
    · skip
      go_wp2_with fail
      refine (spec_l19Req w0 a n c b bs _ lines HA.out hs hl (by repeat (first | (with_reducible assumption) | (with_reducible refine Cur.alloc ?_ _) | (with_reducible refine Cur.drawn ?_ _) | (with_reducible refine Cur.drew ?_) | (with_reducible refine Cur.set ?_ ?_ _) | omega))).mono ?_
      rintro e w1 ⟨i, t, l, wr9, d, q, i_lo, i_hi, t_lo, t_hi, l_lo, l_hi, d_lo, d_hi, q_lo, q_hi, rfl, hC1, h1⟩
      have s1 := h1.size
      try simp only [World.size_alloc, World.size_setCell, World.size_drew, World.heap_drewN] at s1
      have H1 : World.grownBy y1 w1 (some b) := only_next (by repeat (first | (with_reducible assumption) | (with_reducible exact only_refl _ _) | (with_reducible refine only_drawn ?_ _) | (with_reducible refine only_drew ?_) | (with_reducible refine only_alloc ?_ _) | (with_reducible refine only_setCell ?_ ?_ _) | omega)) h1
      have C1 := only_cells H1; have F1 := only_frees H1
      go_wp2_with fail
      refine (spec_l01Below w0 a n c b bs _ (3) HA.out hs (by omega) (by repeat (first | (with_reducible assumption) | (with_reducible refine Cur.alloc ?_ _) | (with_reducible refine Cur.drawn ?_ _) | (with_reducible refine Cur.drew ?_) | (with_reducible refine Cur.set ?_ ?_ _) | omega)) ).mono ?_
      rintro e w2 ⟨u, u_lo, u_hi, rfl, hC2, h2⟩
      have s2 := h2.size
      try simp only [World.size_alloc, World.size_setCell, World.size_drew, World.heap_drewN] at s2
      have B2_2 := h2
      have z2_0 : w1.heap.size < w2.heap.size := by omega
      have q2_0 := fun o => only_cell B2_2 (b := w1.heap.size) (o := o) (by go_size) (by omega)
      have f2_0 := fun o => only_free B2_2 (b := w1.heap.size) (o := o) (by go_size) (by omega)
      have H2 : World.grownBy y1 w2 (some b) := only_next (by repeat (first | (with_reducible assumption) | (with_reducible exact H1) | (with_reducible exact only_refl _ _) | (with_reducible refine only_drawn ?_ _) | (with_reducible refine only_drew ?_) | (with_reducible refine only_alloc ?_ _) | (with_reducible refine only_setCell ?_ ?_ _) | omega)) h2
      have C2 := only_cells H2; have F2 := only_frees H2
      go_wp2_with fail
      refine (spec_l01Below w0 a n c b bs _ (300) HA.out hs (by omega) (by repeat (first | (with_reducible assumption) | (with_reducible refine Cur.alloc ?_ _) | (with_reducible refine Cur.drawn ?_ _) | (with_reducible refine Cur.drew ?_) | (with_reducible refine Cur.set ?_ ?_ _) | omega)) ).mono ?_
      rintro e w3 ⟨v, v_lo, v_hi, rfl, hC3, h3⟩
      have s3 := h3.size
      try simp only [World.size_alloc, World.size_setCell, World.size_drew, World.heap_drewN] at s3
      have B3_2 := only_next (by first | (with_reducible exact B2_2) | (repeat (first | (with_reducible assumption) | (with_reducible exact B2_2) | (with_reducible exact only_refl _ _) | (with_reducible refine only_drawn ?_ _) | (with_reducible refine only_drew ?_) | (with_reducible refine only_alloc ?_ _) | (with_reducible refine only_setCell ?_ ?_ _) | omega))) h3
      have z3_0 : w1.heap.size < w3.heap.size := by omega
      have q3_0 := fun o => only_cell B3_2 (b := w1.heap.size) (o := o) (by go_size) (by omega)
      have f3_0 := fun o => only_free B3_2 (b := w1.heap.size) (o := o) (by go_size) (by omega)
      have H3 : World.grownBy y1 w3 (some b) := only_next (by repeat (first | (with_reducible assumption) | (with_reducible exact H2) | (with_reducible exact only_refl _ _) | (with_reducible refine only_drawn ?_ _) | (with_reducible refine only_drew ?_) | (with_reducible refine only_alloc ?_ _) | (with_reducible refine only_setCell ?_ ?_ _) | omega)) h3
      have C3 := only_cells H3; have F3 := only_frees H3
      have HO3 := hide (HOy.out.kept H3 (own_ne HOy.out (by omega)))
      have HO4 := hide (own_set_off (o := 5) (g := w1.heap.size) HO3.out (fun p hp => by have := (HOy.out.lt p hp).2; omega) (.int .i64 v))
      have hB4 : Below w0.heap.size w0 (w3.setCell ⟨w1.heap.size, 5, none⟩ (.int .i64 v)) := (cur_below hC3 (Below.refl _ _) (Nat.le_refl _)).setCell (by show w0.heap.size ≤ w1.heap.size; omega) _
      have hs4 : w3.heap.size ≤ (w3.setCell ⟨w1.heap.size, 5, none⟩ (.int .i64 v)).heap.size := by simp
      have HC4 := hide (hC3.set (g := w1.heap.size) (o := 5) (by omega) (.int .i64 v))
      have HG4 := hide (only_setCell (g := w1.heap.size) (o := 5) (only_trans hGy.out H3) (.inr (by omega)) (.int .i64 v))
      clear C1 F1 C2 F2 C3 F3 H1 H2 H3 h1 h2 h3 hC1 hC2 hC3 B2_2 B3_2
      go_wp2_with (at_builtin; refine wpList_append_own _ rfl _ _ 36 rfl w.heap.size 41 i0_Rq (.agg #[.int .i64 0, .int .i64 0, .int .i64 0, .bool false, .int .i64 0, .int .i64 0]) 6 48 Try.underlying36 hi_Rq hz0_Rq hz1_Rq hz2_Rq rfl (by decide) _ _ _ rfl (HO4.out.alloc _) ⟨w3.heap.size, 0, none⟩ 1 1 [.int .i64 (1 + 3 * (k : Int) + u), .int .i64 t, .int .i64 l, .bool wr9, .int .i64 d, .int .i64 v] rfl rfl ?c1p ?c2p ?c3p ?c4p ?c5p ?_)
      (try case c1p => exact news_at_of _ _ _ (by go_size))
      (try case c2p => first | exact List.all_eq_true.1 rfl | rfl)
      (try case c3p => (unfold maxLen; omega))
      (try case c4p => omega)
      (try case c5p => (first | go_size | (simp; omega)))
      intro v' wp hownp hgp _
      obtain ⟨ap, cp, rfl⟩ := own_shape hownp
      obtain ⟨hBp, hsp⟩ := below_app hB4 HO4.out (by omega) (by omega) hgp
      have HGp := hide hgp; clear hgp
      have hCp := HC4.out.app HO4.out (by omega) HGp.out
      have hGp := only_grow_own (only_alloc HG4.out _) HGp.out (fun q hq => (HO4.out.lt q hq).1)
      go_wp2
      go_roundw
      case rel => exact ⟨k + 1, _, _, es ++ [⟨1 + 3 * (k : Int) + u, t, l, wr9, d, v⟩], by omega, by go_num, rfl, by simpa [rqF] using hownp, by simp [HL.out], HK.out.snoc HL.out ⟨by simp only; omega, by simp only; omega, t_lo, t_hi, l_lo, l_hi, v_lo, by simp only; omega⟩, hCp, hGp, by omega⟩
      case measure => simp [intOf]; omega
    · go_wp2_with fail
      go_ret
      exact ⟨_, k, _, es, hk, rfl, HOy.out, HL.out, HK.out, hCy, hGy.out⟩
end Go.Proofs.Ytahfbhfmhccgoaa
