/- The schedule of FnSlotTrace, in plain Lean. -/
import Derived.Test.YtahfbhfmhccgoaaSlotQ
import Derived.Test.YtahfbhfmhccgoaaDrawBatch
import Derived.Test.YtahfbhfmhccgoaaPlaces
import Derived.Deep.RegionHeld3
import Derived.Deep.WholeRow
set_option linter.unusedSimpArgs false
set_option linter.unusedVariables false
namespace Go.Proofs.Ytahfbhfmhccgoaa
open Go.RowKit Go.ChangeShapes Go.WideShapes Go.ChangeAt Go.Joins Go.Deep
open Go.ChangeMaps (open_string shut_string)
/-- The law's timing: a fast one with other times behind a write and between a read and a write. -/
def tmWR (W R : Int) : Tm := ⟨3, 3, 7, 2, 3, 10, 2, 3, 3, W, 4, 5, R, 12, 3, 4, 16⟩
theorem tmWR_ok {W R : Int} (hW : 1 ≤ W ∧ W ≤ 10) (hR : 1 ≤ R ∧ R ≤ 12) : tmOk (tmWR W R) = true := by
  have h1 : btw W 1 64 = true := btw_mk hW.1 (by omega)
  have h2 : btw R 1 64 = true := btw_mk hR.1 (by omega)
  unfold tmOk tmAll tmOrd tmL tmWR
  simp only [List.all_cons, List.all_nil, h1, h2]
  rfl
theorem tmWR_need {W R : Int} (hW : 1 ≤ W ∧ W ≤ 10) (hR : 1 ≤ R ∧ R ≤ 12) : 10 ≤ slotNeed (tmWR W R) ∧ slotNeed (tmWR W R) ≤ 16 := by
  unfold slotNeed
  rw [if_pos (tmWR_ok hW hR)]
  simp only [need, mxL, tmWR, List.foldl_cons, List.foldl_nil]
  omega
theorem store_tmF (t : Tm) (w : World) (c : Array Value) (hc : c.size = 17) : Sem.run Try.prog (storeCells ⟨w.heap.size, 0, none⟩ (tmC t)) (w.alloc (.cells c 73)) = .ok () (w.alloc (.cells (tmC t).toArray 73)) := by
  have := run_storeCells_new (P := Try.prog) w 73 c (tmC t).toArray (tmC_info t) (by rw [hc, List.size_toArray, tmC_len]) (tmC_one t)
  simpa using this
theorem batch_map {g : Ge} {mo : Int} {es : List Rq} (hg : geoOk g = true) (hmo : 0 ≤ mo ∧ mo ≤ 2) (hb : BatchOk (lineCnt g) es) : ∀ r ∈ es, mapOk g mo r.line = true := by
  intro r hr
  obtain ⟨i, hi⟩ := List.getElem?_of_mem hr
  obtain ⟨_, _, _, _, h5, h6, _⟩ := hb i r hi
  have h7 : 2 ≤ lineCnt g := by unfold lineCnt; rw [if_pos hg]; exact (line_bd hg).1
  unfold mapOk
  rw [btw_mk hmo.1 hmo.2, btw_mk h5 (by omega)]; rfl
theorem batch_good {g : Ge} {mo : Int} {es : List Rq} (hg : geoOk g = true) (hmo : 0 ≤ mo ∧ mo ≤ 2) (hb : BatchOk (lineCnt g) es) : ∀ k, goodTo g mo es k = true
  | 0 => rfl
  | k + 1 => by
    have ih := batch_good hg hmo hb k
    cases h : es[k]? with
    | none => simp only [goodTo, ih, h]; rfl
    | some r =>
      refine goodTo_next ih h (batch_map hg hmo hb r (List.mem_of_getElem? h)) ?_
      cases hq : (es.take k).any fun q => q.id == r.id
      · rfl
      · obtain ⟨j, hj, q, hq1, hq2⟩ := any_take.1 hq
        exact absurd hq2 (batch_ids hb hq1 h (by omega))
theorem batch_wf {lines : Int} {es : List Rq} (hb : BatchOk lines es) (hl : es.length ≤ 13) : ∀ r ∈ es, (Lit.int .i64 r.id).wf = true := by
  intro r hr
  obtain ⟨i, hi⟩ := List.getElem?_of_mem hr
  obtain ⟨h1, h2, _⟩ := hb i r hi
  have hlt := (List.getElem?_eq_some_iff.1 hi).1
  show (decide (IntKind.min .i64 ≤ r.id) && decide (r.id ≤ IntKind.max .i64)) = true
  rw [show IntKind.min .i64 = -9223372036854775808 from rfl, show IntKind.max .i64 = 9223372036854775807 from rfl]
  simp; omega
theorem servable_short {zs : List Int} {l : Int} {n m : Nat} (hz : zs.length = m) (h1 : 1 ≤ m ∧ m ≤ 6) (h2 : ∀ z ∈ zs, 0 ≤ z ∧ z ≤ 2) (hl : 10 ≤ l ∧ l ≤ 19) (hn : n ≤ 13) : servable zs l 500 n = true := by
  have hok : slotsOkB zs l = true := by
    unfold slotsOkB
    simp only [Bool.and_eq_true, List.all_eq_true, btw_true]
    exact ⟨fun z hz => by have := h2 z hz; omega, by omega, by omega⟩
  refine servable_yes hok (by decide) (by omega) ?_
  have : (500 : Int) / l ≤ 500 := Int.ediv_le_self l (by omega)
  omega
theorem served_len {rs : List Rq} {zs : List Int} {l : Int} (j : Nat) : (servedS rs zs l j).length = (whichS rs zs l j).length := by
  rw [served_zip, List.length_zipWith, begin_len, Nat.min_self]
structure PlainT (A : TrA) (es : List Rq) (nb m2 K : Nat) : Prop where
  ok : trOk A es = true
  clean : CleanTr A.g A.t nb (trL A es)
  len : (trL A es).length = 3 * K
  few : K ≤ 60
theorem trace_plain {g : Ge} {mo W R L : Int} {mh : Bool} {zs : List Int} {es : List Rq} {m1 m2 nb K : Nat} (hg : geoOk g = true) (hnb : bankCnt g = (nb : Int)) (hmo : 0 ≤ mo ∧ mo ≤ 2) (hW : 1 ≤ W ∧ W ≤ 10) (hR : 1 ≤ R ∧ R ≤ 12) (hz : zs.length = m1) (h1 : 1 ≤ m1 ∧ m1 ≤ 6) (h2 : ∀ z ∈ zs, 0 ≤ z ∧ z ≤ 2)
    (hL : slotNeed (tmWR W R) ≤ L ∧ L ≤ 19) (hl : es.length = m2) (hm2 : m2 ≤ 13) (hb : BatchOk (lineCnt g) es) (hK : (servedAll es zs L 500).length = K) : PlainT ⟨g, tmWR W R, mo, mh, zs, L, 500⟩ es nb m2 K := by
  have hn := tmWR_need hW hR
  have hok := tmWR_ok hW hR
  have hs := servable_short (n := m2) hz h1 h2 (show 10 ≤ L ∧ L ≤ 19 by omega) hm2
  have ht : traceOk ⟨g, tmWR W R, mo, mh, zs, L, 500⟩ m2 = true := by
    simp only [traceOk, hg, hok, btw_mk hmo.1 hmo.2, hs, Bool.true_and, Bool.and_eq_true, decide_eq_true_eq]
    exact ⟨by omega, hL.1⟩
  have htr : trOk ⟨g, tmWR W R, mo, mh, zs, L, 500⟩ es = true := by
    unfold trOk; rw [hl, ht]; rw [show goodTo g mo es m2 = true from batch_good hg hmo hb m2]; rfl
  have htl : trL ⟨g, tmWR W R, mo, mh, zs, L, 500⟩ es = trS ⟨g, tmWR W R, mo, mh, zs, L, 500⟩ es (nSlots 500 L) := by unfold trL; rw [if_pos htr]
  obtain ⟨h5, h6, h7, h8, h9⟩ := servable_bd hs
  have hnl := nSlots_le (u := 500) (l := L) (by omega) (by omega) h9
  have hinv := tr_inv (A := ⟨g, tmWR W R, mo, mh, zs, L, 500⟩) (rs := es) (nb := nb) (N := nSlots 500 L) hok (lenOk_of hok hL.1) (show 0 ≤ L by omega) hnb (batch_map hg hmo hb) (show ((nSlots 500 L : Nat) : Int) * L ≤ 999000 by omega) (nSlots 500 L) (Nat.le_refl _)
  have hsv : servedAll es zs L 500 = servedS es zs L (nSlots 500 L) := by unfold servedAll; rw [hl, if_pos hs]
  have hN : nSlots 500 L ≤ 60 := by
    have h10 := hnl.2
    have h11 : ((nSlots 500 L : Nat) : Int) * 10 ≤ ((nSlots 500 L : Nat) : Int) * L := Int.mul_le_mul_of_nonneg_left (by omega) (by omega)
    omega
  have hwl := which_le (rs := es) (zs := zs) (l := L) (nSlots 500 L)
  rw [hsv, served_len] at hK
  refine ⟨htr, ?_, ?_, by omega⟩
  · rw [htl]; exact hinv.good
  · rw [htl, tr_len]; rw [show (whichS es zs L (nSlots 500 L)).length = K from hK]
theorem trace_short {g : Ge} {mo W R n : Int} {mh : Bool} {zs : List Int} {m2 : Nat} (hn : slotNeed (tmWR W R) = n) : traceOk ⟨g, tmWR W R, mo, mh, zs, n - 1, 500⟩ m2 = false := by
  cases h : traceOk ⟨g, tmWR W R, mo, mh, zs, n - 1, 500⟩ m2
  · rfl
  · have h2 := (traceOk_bd h).2.2.2.2.2
    simp only at h2
    omega
end Go.Proofs.Ytahfbhfmhccgoaa
