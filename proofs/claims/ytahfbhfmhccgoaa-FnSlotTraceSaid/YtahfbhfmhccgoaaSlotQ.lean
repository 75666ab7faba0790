/- The trace of a fixed schedule has no fault, in plain Lean. -/
import Derived.Test.YtahfbhfmhccgoaaSlotP
import Derived.Test.YtahfbhfmhccgoaaFltP
import Derived.Test.YtahfbhfmhccgoaaServeQ
set_option linter.unusedSimpArgs false
set_option linter.unusedVariables false
namespace Go.Proofs.Ytahfbhfmhccgoaa
open Go.RowKit Go.ChangeShapes Go.WideShapes Go.ChangeAt Go.Joins Go.Deep
open Go.ChangeMaps (open_string shut_string)
structure LenOk (t : Tm) (l : Int) : Prop where
  h1 : t.ras + t.rp ≤ l
  h2 : t.rcd + t.rtp + t.rp ≤ l
  h3 : t.rcd + t.wr + t.rp ≤ l
  h4 : t.rrdl ≤ l
  h5 : t.ccdl ≤ l
  h6 : t.wtrl ≤ l
  h7 : t.rtw ≤ l
  h8 : t.faw ≤ 4 * l
theorem lenOk_of {t : Tm} {l : Int} (hok : tmOk t = true) (h : slotNeed t ≤ l) : LenOk t l := by
  unfold slotNeed at h
  rw [if_pos hok] at h
  simp only [need, mxL, List.foldl_cons, List.foldl_nil] at h
  constructor <;> omega
/-- An event of a slot that began at least l ahead of B. -/
def OldEv (t : Tm) (l B : Int) (f : Ev) : Prop := ∃ (a : Ad) (wr : Bool) (bi : Int), 0 ≤ bi ∧ bi + l ≤ B ∧ f ∈ ev3 t a wr bi
theorem gap_old {g : Ge} {t : Tm} {l B : Int} {f e : Ev} {a : Ad} {wr : Bool} (hok : tmOk t = true) (hl : LenOk t l) (hf : OldEv t l B f) (he : e ∈ ev3 t a wr B) : f.tm + gapG g t f e ≤ e.tm := by
  obtain ⟨a', wr', bi, hb0, hb1, hf⟩ := hf
  obtain ⟨⟨p0, _⟩, ⟨p1, _⟩, ⟨p2, _⟩, ⟨p3, _⟩, ⟨p4, _⟩, ⟨p5, _⟩, ⟨p6, _⟩, ⟨p7, _⟩, ⟨p8, _⟩, ⟨p9, _⟩, ⟨p10, _⟩, ⟨p11, _⟩, ⟨p12, _⟩, _⟩ := tmOk_bd hok
  obtain ⟨o1, o2, o3, o4⟩ := tmOk_ord hok
  obtain ⟨h1, h2, h3, h4, h5, h6, h7, h8⟩ := hl
  simp only [ev3, List.mem_cons, List.not_mem_nil, or_false] at hf he
  unfold gapG
  generalize (grpOf g f.bank == grpOf g e.bank) = near
  rcases hf with rfl | rfl | rfl <;> rcases he with rfl | rfl | rfl <;> cases wr <;> cases wr' <;> cases near <;> by_cases hb : a'.b = a.b <;> simp [rankG, bankG, hb] <;> omega
theorem late_old {t : Tm} {l B : Int} {f : Ev} (hok : tmOk t = true) (hl : LenOk t l) (hf : OldEv t l B f) : f.tm < B := by
  obtain ⟨a', wr', bi, hb0, hb1, hf⟩ := hf
  obtain ⟨⟨p0, _⟩, ⟨p1, _⟩, ⟨p2, _⟩, _⟩ := tmOk_bd hok
  obtain ⟨o1, o2, o3, o4⟩ := tmOk_ord hok
  obtain ⟨h1, h2, h3, h4, h5, h6, h7, h8⟩ := hl
  simp only [ev3, List.mem_cons, List.not_mem_nil, or_false] at hf
  rcases hf with rfl | rfl | rfl <;> cases wr' <;> simp <;> omega
theorem acts_ev3 (t : Tm) (L : List Ev) (a : Ad) (wr : Bool) (B : Int) : acts (L ++ ev3 t a wr B) = acts L ++ [B] := by
  unfold acts ev3
  rw [List.filter_append, List.map_append]
  cases wr <;> rfl
structure SlotInv (A : TrA) (nb : Nat) (L : List Ev) (B : Int) : Prop where
  good : CleanTr A.g A.t nb L
  old : ∀ f ∈ L, OldEv A.t A.l B f
  shut : bkOf nb L = List.replicate nb ⟨false, 0⟩
  act : ∀ i z, (acts L)[i]? = some z → z + (((acts L).length - i : Nat) : Int) * A.l ≤ B
theorem SlotInv.next {A : TrA} {nb : Nat} {L : List Ev} {B : Int} (hl0 : 0 ≤ A.l) (h : SlotInv A nb L B) : SlotInv A nb L (B + A.l) :=
  ⟨h.good, fun f hf => by obtain ⟨a, wr, bi, h1, h2, h3⟩ := h.old f hf; exact ⟨a, wr, bi, h1, by omega, h3⟩, h.shut, fun i z hz => by have := h.act i z hz; omega⟩
theorem SlotInv.add {A : TrA} {nb : Nat} {L : List Ev} {B : Int} {a : Ad} {wr : Bool} (hok : tmOk A.t = true) (hl : LenOk A.t A.l) (hnb : bankCnt A.g = (nb : Int)) (ha : adOk A.g a = true) (hB0 : 0 ≤ B) (hB1 : B ≤ 999000) (h : SlotInv A nb L B) : SlotInv A nb (L ++ ev3 A.t a wr B) (B + A.l) := by
  have hgap := fun (f e : Ev) (hf : f ∈ L) (he : e ∈ ev3 A.t a wr B) => gap_old (g := A.g) hok hl (h.old f hf) he
  have hlate := fun (f : Ev) (hf : f ∈ L) => late_old hok hl (h.old f hf)
  have hacts := acts_ev3 A.t L a wr B
  have hform : (0 ≤ a.b ∧ a.b < (nb : Int)) ∧ (0 ≤ a.r ∧ a.r < A.g.rw) ∧ (0 ≤ a.c ∧ a.c < A.g.cl) := by
    simp only [adOk, Bool.and_eq_true, btw_true] at ha
    rw [hnb] at ha
    omega
  obtain ⟨⟨p0, q0⟩, ⟨p1, q1⟩, ⟨p2, q2⟩, ⟨p3, _⟩, ⟨p4, _⟩, ⟨p5, _⟩, ⟨p6, _⟩, ⟨p7, _⟩, ⟨p8, q8⟩, ⟨p9, q9⟩, _⟩ := tmOk_bd hok
  obtain ⟨o1, o2, o3, o4⟩ := tmOk_ord hok
  have hlen : a.b.toNat < nb := by omega
  obtain ⟨h1, h2, h3, h4, h5, h6, h7, h8⟩ := hl
  obtain ⟨e1, he1⟩ : ∃ e : Ev, (⟨B, 1, a.b, a.r, 0⟩ : Ev) = e := ⟨_, rfl⟩
  obtain ⟨e2, he2⟩ : ∃ e : Ev, (⟨B + A.t.rcd, if wr = true then 3 else 2, a.b, 0, a.c⟩ : Ev) = e := ⟨_, rfl⟩
  obtain ⟨e3, he3⟩ : ∃ e : Ev, (⟨B + max A.t.ras (A.t.rcd + (if wr = true then A.t.wr else A.t.rtp)), 4, a.b, 0, 0⟩ : Ev) = e := ⟨_, rfl⟩
  have hev : ev3 A.t a wr B = [e1, e2, e3] := by rw [← he1, ← he2, ← he3]; rfl
  have happ : L ++ [e1, e2, e3] = ((L ++ [e1]) ++ [e2]) ++ [e3] := by simp
  have hb1 : bkOf nb (L ++ [e1]) = (List.replicate nb (Bk.mk false 0)).set a.b.toNat ⟨true, a.r⟩ := by
    rw [bkOf_snoc, h.shut, ← he1]; simp [bkTo]
  have hb2 : bkOf nb ((L ++ [e1]) ++ [e2]) = (List.replicate nb (Bk.mk false 0)).set a.b.toNat ⟨true, a.r⟩ := by
    rw [bkOf_snoc, hb1, ← he2]; cases wr <;> simp [bkTo]
  have hb3 : bkOf nb (((L ++ [e1]) ++ [e2]) ++ [e3]) = List.replicate nb (Bk.mk false 0) := by
    rw [bkOf_snoc, hb2, ← he3]; simp only [bkTo]
    rw [if_neg (by omega)]; simp only [if_true]; rw [List.set_set]
    apply List.ext_getElem?
    intro i
    rw [List.getElem?_set]
    by_cases hi : a.b.toNat = i
    · subst hi; simp [hlen]
    · simp [hi]
  rw [hev] at hgap hacts ⊢
  have f1 : FineP A.g A.t nb L e1 := by
    refine ⟨?_, ?_, ?_, ?_, ?_, ?_, ?_⟩
    · rw [← he1]; exact ⟨hform.1, .inl ⟨rfl, hform.2.1, rfl⟩⟩
    · rw [← he1]; exact hB0
    · rw [← he1]; simp only; omega
    · intro f hf; rw [← he1]; exact hlate f (List.mem_of_getLast? hf)
    · rw [← he1]; exact ⟨⟨false, 0⟩, by rw [h.shut]; simp [hlen], rfl⟩
    · exact fun f hf => hgap f e1 hf (by simp)
    · intro _ z h4 hz
      have := h.act _ z hz
      rw [show (acts L).length - ((acts L).length - 4) = 4 by omega] at this
      rw [← he1]; simp only; omega
  have f2 : FineP A.g A.t nb (L ++ [e1]) e2 := by
    refine ⟨?_, ?_, ?_, ?_, ?_, ?_, ?_⟩
    · rw [← he2]; refine ⟨hform.1, ?_⟩
      cases wr
      · exact .inr (.inl ⟨rfl, rfl, hform.2.2⟩)
      · exact .inr (.inr (.inl ⟨rfl, rfl, hform.2.2⟩))
    · rw [← he2]; simp only; omega
    · rw [← he2]; simp only; omega
    · intro f hf; simp at hf; subst hf; rw [← he1, ← he2]; simp only; omega
    · rw [hb1, ← he2]; refine ⟨⟨true, a.r⟩, by simp [hlen], by cases wr <;> rfl⟩
    · intro f hf
      simp only [List.mem_append, List.mem_singleton] at hf
      rcases hf with hf | rfl
      · exact hgap f e2 hf (by simp)
      · rw [← he1, ← he2]; cases wr <;> simp [gapG, rankG, bankG] <;> omega
    · intro h; rw [← he2] at h; cases wr <;> simp at h
  have f3 : FineP A.g A.t nb ((L ++ [e1]) ++ [e2]) e3 := by
    refine ⟨?_, ?_, ?_, ?_, ?_, ?_, ?_⟩
    · rw [← he3]; exact ⟨hform.1, .inr (.inr (.inr ⟨rfl, rfl, rfl⟩))⟩
    · rw [← he3]; simp only; omega
    · rw [← he3]; cases wr <;> simp <;> omega
    · intro f hf; simp at hf; subst hf; rw [← he2, ← he3]; cases wr <;> simp <;> omega
    · rw [hb2, ← he3]; exact ⟨⟨true, a.r⟩, by simp [hlen], rfl⟩
    · intro f hf
      simp only [List.mem_append, List.mem_singleton] at hf
      rcases hf with (hf | rfl) | rfl
      · exact hgap f e3 hf (by simp)
      · rw [← he1, ← he3]; cases wr <;> simp [gapG, rankG, bankG] <;> omega
      · rw [← he2, ← he3]; cases wr <;> simp [gapG, rankG, bankG] <;> omega
    · intro h; rw [← he3] at h; simp at h
  refine ⟨?_, ?_, ?_, ?_⟩
  · rw [happ]; exact clean_snoc (clean_snoc (clean_snoc h.good f1) f2) f3
  · intro f hf
    rw [List.mem_append] at hf
    rcases hf with hf | hf
    · obtain ⟨a', wr', bi, x1, x2, x3⟩ := h.old f hf
      exact ⟨a', wr', bi, x1, by omega, x3⟩
    · exact ⟨a, wr, B, hB0, by omega, by rw [hev]; exact hf⟩
  · rw [happ]; exact hb3
  · intro i z hz
    rw [hacts] at hz ⊢
    rw [List.length_append, List.length_singleton]
    by_cases hi : i < (acts L).length
    · rw [List.getElem?_append_left hi] at hz
      have := h.act i z hz
      rw [show (acts L).length + 1 - i = ((acts L).length - i) + 1 by omega]
      rw [show ((((acts L).length - i) + 1 : Nat) : Int) = (((acts L).length - i : Nat) : Int) + 1 by omega, Int.add_mul, Int.one_mul]
      omega
    · have hlt := (List.getElem?_eq_some_iff.1 hz).1
      simp at hlt
      obtain rfl : i = (acts L).length := by omega
      rw [List.getElem?_append_right (Nat.le_refl _), Nat.sub_self] at hz
      simp at hz
      subst hz
      rw [show (acts L).length + 1 - (acts L).length = 1 by omega]
      omega
theorem tr_inv {A : TrA} {rs : List Rq} {nb N : Nat} (hok : tmOk A.t = true) (hl : LenOk A.t A.l) (hl0 : 0 ≤ A.l) (hnb : bankCnt A.g = (nb : Int)) (hm : ∀ r ∈ rs, mapOk A.g A.mo r.line = true) (hN : (N : Int) * A.l ≤ 999000) : ∀ j, j ≤ N → SlotInv A nb (trS A rs j) ((j : Int) * A.l)
  | 0, _ => ⟨clean_nil _ _ _, fun f hf => by simp [trS] at hf, rfl, fun i z hz => by simp [trS, acts] at hz⟩
  | j + 1, hj => by
    have ih := tr_inv (rs := rs) hok hl hl0 hnb hm hN j (by omega)
    have hjl : ((j + 1 : Nat) : Int) * A.l = (j : Int) * A.l + A.l := mul_step j A.l
    have hle : ((j : Nat) : Int) * A.l ≤ (N : Int) * A.l := Int.mul_le_mul_of_nonneg_right (by omega) hl0
    have hge : 0 ≤ ((j : Nat) : Int) * A.l := Int.mul_nonneg (by omega) hl0
    rw [hjl]
    by_cases h : pickS rs A.zs A.l j < 0
    · rw [tr_no h]; exact ih.next hl0
    · obtain ⟨m, hm2⟩ := Int.eq_ofNat_of_zero_le (show 0 ≤ pickS rs A.zs A.l j by omega)
      have hb := pickS_bd rs A.zs A.l j
      have hr : rs[m]? = some (rs[m]'(by omega)) := List.getElem?_eq_getElem _
      rw [tr_yes hm2, evOf_at hr]
      exact ih.add hok hl hnb (mapL_ok A.mh (hm _ (List.mem_of_getElem? hr))) hge (by omega)
end Go.Proofs.Ytahfbhfmhccgoaa
