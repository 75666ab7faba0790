/- LogWrite on both sides. -/
import Derived.Test.YtheifhjnbpbkhaaDoorLog3
import Derived.Test.YtheifhjnbpbkhaaDoorHeldLast
set_option linter.unusedSimpArgs false
set_option linter.unusedVariables false
namespace Go.Proofs.YtheifhjnbpbkhaaDoor
open Go.RowKit Go.ChangeShapes Go.WideShapes Go.ChangeAt Go.Joins Go.Deep
open Go.ChangeMaps (open_string shut_string)
def cutT (t : List UInt8) (bytes : Int) : List UInt8 := if 0 ≤ bytes ∧ bytes < (t.length : Int) then t.take bytes.toNat else t
def wrT (ss : List ByteArray) (list : List En) : List UInt8 := enc (decN (rdL ss) + 1) list
def wrOk (ss : List ByteArray) (list : List En) : Bool := decide (ss.length = 2) && (decide (0 ≤ bestOf ss) && !(wrT ss list).isEmpty)
def wrL (ss : List ByteArray) (list : List En) (bytes : Int) : List ByteArray := if wrOk ss list = true then ss.set (1 - bestOf ss).toNat (strOf (cutT (wrT ss list) bytes)) else ss
theorem wrL_no {ss : List ByteArray} {list : List En} {bytes : Int} (h : wrOk ss list = false) : wrL ss list bytes = ss := by unfold wrL; rw [if_neg (by rw [h]; simp)]
theorem wrL_len (ss : List ByteArray) (list : List En) (bytes : Int) : (wrL ss list bytes).length = ss.length := by
  unfold wrL; split
  · simp
  · rfl
def GotLog (w : World) (N : Nat) (ss : List ByteArray) (ok : Bool) (e : Ending) (w' : World) : Prop :=
  ∃ a c, e = .returned (.tuple #[.agg #[.slice a N c], .bool ok]) ∧ w'.ownsRow w.heap.size 9 1 (.slice a N c) N (ss.map Value.string) ∧ Below w.heap.size w w'
theorem rdL_num (ss : List ByteArray) : decN (rdL ss) ≤ 1000000000 ∧ 0 ≤ decN (rdL ss) := by
  rcases best_cases ss with hb | ⟨b, s, hb, _, hbs, _⟩
  · rw [rdL_none (by omega)]; simp [decN]
  · rw [rdL_at hb hbs]; exact dcdI_num
theorem rdL_ok (ss : List ByteArray) : (rdL ss).isSome = decide (0 ≤ bestOf ss) := by
  rcases best_cases ss with hb | ⟨b, s, hb, _, hbs, ho⟩
  · rw [rdL_none (by omega), hb]; rfl
  · rw [rdL_at hb hbs, ho, hb]; simp
theorem blk_below2 {b : Nat} {v v' : World} {o : Obj} (hb : Below v.heap.size v v') (h : v.heap[b]? = some o) : v'.heap[b]? = some o := (hb.block b (lt_blk h)).trans h
theorem below_drew2 {w v : World} (h : Below (World.drew w).heap.size (World.drew w) v) : Below w.heap.size w v := ⟨h.os, h.tape, h.output, h.size, h.block⟩
theorem set_str {ss : List ByteArray} {k : Nat} {x : ByteArray} : (ss.map Value.string).set k (.string x) = (ss.set k x).map Value.string := by rw [List.map_set]
theorem str_ones (ss : List ByteArray) : ∀ v ∈ ss.map Value.string, v.oneCell' = true := by
  intro v hv
  obtain ⟨s, _, rfl⟩ := List.mem_map.1 hv
  rfl
set_option maxRecDepth 100000 in
set_option maxHeartbeats 4000000 in
theorem impl_LogWrite (a : Option Addr) (n c : Nat) (ss : List ByteArray) (a2 : Option Addr) (n2 c2 : Nat) (list : List En) (bytes : Int) (S : List ByteArray) (ok : Bool) (w : World)
    (ha : IsStrs w a n c ss) (hs : n ≤ 1048576) (hsz : ∀ s ∈ ss, s.size ≤ 1048576) (ha2 : IsStructs enF 3 w a2 n2 c2 list) (hs2' : n2 ≤ 1048576) (hS : wrL ss list bytes = S) (hok : wrOk ss list = ok) (hG : Good w) :
    Calls Tryd.prog 29 #[.agg #[.slice a n c], .slice a2 n2 c2, .int .i64 bytes] w (GotLog w n S ok) := by
  have HA := hide ha; have HSZ := hide hsz; have HA2 := hide ha2; have HS := hide hS; have HOK := hide hok; have HG := hide hG
  have hln := ha.1
  have hc := ha.2.1
  have hc2 := ha2.2.1
  clear ha hsz ha2 hS hok hG
  obtain ⟨i0_string, hi_string, hz0_string, hz1_string, hz2_string⟩ := info_parts info_string
  go_enter Tryd.func29, Tryd.ntmps29
  have HB0 : Below w.heap.size w (((w.alloc (.cells #[.slice a n c] 35)).alloc (.cells #[.slice none 0 0] 35)).alloc (.cells #[] 9)) := by go_grown
  have HA0 := hide (HA.out.below HB0 (Nat.le_refl _))
  have HO0 : Hid ((((w.alloc (.cells #[.slice a n c] 35)).alloc (.cells #[.slice none 0 0] 35)).alloc (.cells #[] 9)).ownsRow (w.heap.size + 1 + 1) 9 1 (.slice (some ⟨w.heap.size + 1 + 1, 0, none⟩) 0 0) 0 []) := hide (by
    have h := World.ownsRow_made (base := w.heap.size + 1 + 1) (e := 9) (size := 1) ((w.alloc (.cells #[.slice a n c] 35)).alloc (.cells #[.slice none 0 0] 35)) #[] 0 (by simp) (by decide) rfl
    simp only [World.size_alloc] at h; exact h)
  go_wp2_with (at_builtin; refine wpList_append_any rfl _ _ 33 rfl (w.heap.size + 1 + 1) 9 i0_string (.string { data := #[] }) 1 16 Tryd.underlying33 hi_string hz0_string hz1_string hz2_string rfl (by decide) _ _ _ rfl (HO0.out) _ _ _ _ rfl (by rw [List.length_map, HA.out.1, Nat.mul_one]) HA0.out.2.2.2.2 (str_ones _) ?c3p ?c4p ?c5p ?_)
  case c3p => unfold maxLen; omega
  case c4p => omega
  case c5p => (first | go_size | (simp; omega))
  intro v' wp hownp hgp
  obtain ⟨ap, cp, rfl⟩ := own_shape hownp
  have hBp := below_grown HB0 (HO0.out) (by omega) (by go_size) hgp
  have hsp := hgp.size
  (try simp only [World.size_alloc] at hsp)
  have HGp := hide hgp; clear hgp
  have k3p : wp.heap[w.heap.size]? = some (.cells #[.slice a n c] 35 (0, 0)) := (HGp.out.block _ (by simp; omega) (by simp [Value.ownBlock]; omega)).trans (by rw [alloc_lt _ _ _ (by simp; omega), alloc_lt _ _ _ (by simp)]; exact alloc_at _ _ _ rfl)
  have k6p : wp.heap[w.heap.size + 1]? = some (.cells #[.slice none 0 0] 35 (0, 0)) := (HGp.out.block _ (by simp) (by simp [Value.ownBlock])).trans (by rw [alloc_lt _ _ _ (by simp)]; exact alloc_at _ _ _ (by simp))
  (try simp only [List.nil_append, Nat.zero_add] at hownp)
  obtain ⟨b8, hb8⟩ : ∃ b8, b8 = wp.heap.size := ⟨_, rfl⟩
  have k3 : (wp.alloc (.cells #[.slice ap n cp] 35)).heap[w.heap.size]? = some (.cells #[.slice a n c] 35 (0, 0)) := by rw [alloc_lt _ _ _ (by omega)]; exact k3p
  have k6 : (wp.alloc (.cells #[.slice ap n cp] 35)).heap[w.heap.size + 1]? = some (.cells #[.slice none 0 0] 35 (0, 0)) := by rw [alloc_lt _ _ _ (by omega)]; exact k6p
  have k8 : (wp.alloc (.cells #[.slice ap n cp] 35)).heap[b8]? = some (.cells #[.slice ap n cp] 35 (0, 0)) := alloc_at _ _ _ hb8
  have e3 := cell_blk k3 0
  have hB1 : Below w.heap.size w (wp.alloc (.cells #[.slice ap n cp] 35)) := Below.alloc hBp (by omega) _
  have hO1 := hownp.alloc (.cells #[.slice ap n cp] 35)
  have hs8 : w.heap.size + 1 + 1 + 1 ≤ b8 := by omega
  have hs1 : b8 + 1 ≤ (wp.alloc (.cells #[.slice ap n cp] 35)).heap.size := by simp; omega
  have HGB := hide (fun (hn : 0 < n) => own_some hownp hn)
  obtain ⟨N, hN⟩ : ∃ N, decN (rdL ss) = N := ⟨_, rfl⟩
  obtain ⟨ok0, hok0⟩ : ∃ ok, (rdL ss).isSome = ok := ⟨_, rfl⟩
  have hNb := rdL_num ss
  rw [hN] at hNb
  obtain ⟨hN1, hN0⟩ := hNb
  obtain ⟨t, ht⟩ : ∃ t, wrT ss list = t := ⟨_, rfl⟩
  have ht2 : enc (N + 1) list = t := by rw [← ht, ← hN]; rfl
  have HT2 := hide ht2; have HT := hide ht; have HN := hide hN; have HOK0 := hide hok0; have HB8 := hide hb8
  clear hN hok0 ht ht2 hb8 k3p k6p HGp hownp hBp HA0 HO0 hsp HB0
  go_upto_region 2 with fail
  rw [← HB8.out]
  generalize (wp.alloc (.cells #[.slice ap n cp] 35)) = W1 at *
  go_wp2_with fail
  refine (impl_LogRead a n c ss N _ _ ok0 _ (HA.out.below hB1 (Nat.le_refl _)) hs HSZ.out HN.out rfl rfl HOK0.out (HG.out.below hB1)).mono ?_
  rintro e w2 ⟨ar, cr, rfl, _, h2⟩
  have hB2 := bthenS hB1 h2
  have k3b := blk_below2 h2 k3; have k6b := blk_below2 h2 k6; have k8b := blk_below2 h2 k8
  have hO2 := own_next hO1 h2
  have hs2 := h2.size
  clear e3 k3 k6 k8 hO1
  have hsN : IntKind.i64.wrap (N + 1) = N + 1 := IntWalk.i64_in _ (by omega)
  go_wp2_with fail
  refine (impl_EncodeErrors (N + 1) a2 n2 c2 list t _ (HA2.out.below hB2 (Nat.le_refl _)) hs2' HT2.out (HG.out.below hB2)).mono ?_
  rintro e w3 ⟨rfl, h3⟩
  have hBx := bthenS hB2 h3
  have k3x := blk_below2 h3 k3b; have k6x := blk_below2 h3 k6b; have k8x := blk_below2 h3 k8b
  have hOx := own_next hO2 h3
  have hs3 := h3.size
  have e3 := cell_blk k3x 0
  clear k3b k6b k8b hO2 hsN
  by_cases hn2 : n = 2
  · subst hn2
    have hl2 : decide (ss.length = 2) = true := decide_eq_true hln
    cases ok0
    · have HW : Hid (wrOk ss list = false) := hide (by
        have h1 := HOK0.out
        rw [rdL_ok] at h1
        unfold wrOk; rw [h1]; simp)
      have hk := HW.out
      obtain rfl : ss = S := by rw [← HS.out, wrL_no hk]
      obtain rfl : false = ok := by rw [← HOK.out, hk]
      clear hk
      skip
      have e8 := cell_blk k8x 0; have e6 := cell_blk k6x 0; have f6 := free_blk k6x 0
      go_wp2_with fail
      refine bodyPost_ret (by simp [results, Tryd.results29, go_sem, *]; try rfl) rfl ?_
      exact ⟨_, _, rfl, own_base (ownsRow_setCell_below hOx (by simp only; omega) _) (by omega), Below.setCell hBx (by simp only; omega) _⟩
    · have hbest := HOK0.out
      rw [rdL_ok] at hbest
      cases ht0 : t.isEmpty
      · have HW : Hid (wrOk ss list = true) := hide (by unfold wrOk; rw [hl2, hbest, HT.out, ht0]; rfl)
        obtain rfl : true = ok := by rw [← HOK.out, HW.out]
        obtain ⟨b, hb, hb2⟩ : ∃ b : Nat, bestOf ss = (b : Int) ∧ b < 2 := by
          rcases best_cases ss with h | ⟨b, s, h, hl, _, _⟩
          · rw [h] at hbest; simp at hbest
          · exact ⟨b, h, by omega⟩
        have HBE := hide hb
        have htne : t ≠ [] := fun h => by rw [h] at ht0; cases ht0
        have htok : encOk (N + 1) list = true := by
          cases h : encOk (N + 1) list with
          | true => rfl
          | false => exact absurd (by rw [← HT2.out]; exact enc_no h) htne
        have htl : t.length ≤ 82 := by rw [← HT2.out]; unfold enc; rw [if_pos htok]; exact (encB_len htok).1
        have htp : 1 ≤ t.length := List.length_pos_iff.2 htne
        have hts : (strOf t).size = t.length := rfl
        have z1 : ¬ (strOf t).toList = [] := by rw [ByteArray.toList_eq, strOf_data]; exact htne
        have z2 : (strOf t).toList.isEmpty = false := by rw [ByteArray.toList_eq, strOf_data]; exact ht0
        clear hb hbest htne htok ht0 hl2
        by_cases hcut : 0 ≤ bytes ∧ bytes < (t.length : Int)
        · obtain ⟨q, rfl⟩ : ∃ q : Nat, bytes = (q : Int) := ⟨bytes.toNat, by omega⟩
          have hbt : btw (q : Int) 0 ((t.length : Int) - 1) = true := btw_mk (by omega) (by omega)
          obtain ⟨u, hu⟩ : ∃ u, t.take q = u := ⟨_, rfl⟩
          have HU : Hid (cutT (wrT ss list) (q : Int) = u) := hide (by rw [HT.out]; unfold cutT; rw [if_pos ⟨by omega, by omega⟩, Int.toNat_natCast, hu])
          have hex : (strOf t).extract 0 q = strOf u := by
            rw [← hu]; apply ByteArray.ext; apply Array.toList_inj.1; rw [Go.Lib.extract_from_zero]; rfl
          have hq1 : q ≤ t.length := by omega
          clear hu hcut
          go_wp2_with fail
          refine (btw_is 40 (q : Int) 0 ((t.length : Int) - 1) true _ hbt (impl_between _ _ _ _)).mono ?_
          rintro e w4 ⟨rfl, h4⟩
          replace k3x := blk_below2 h4 k3x; replace k6x := blk_below2 h4 k6x; replace k8x := blk_below2 h4 k8x
          replace hOx := own_next hOx h4
          have hs4 := h4.size
          replace hBx := bthenS hBx h4
          clear e3 hbt
          obtain ⟨g, rfl, hg1, hg2, _⟩ := HGB.out (by omega)
          have hgb : g < b8 := by have := HB8.out; omega
          obtain ⟨j, hj⟩ : ∃ j : Nat, 1 - b = j := ⟨_, rfl⟩
          have hjw : IntKind.i64.wrap (1 - (b : Int)) = (j : Int) := by rw [IntWalk.i64_in _ (by omega)]; omega
          have hj0 : (0 : Int) ≤ (j : Int) := by omega
          have hj1 : (j : Int) < (2 : Int) := by omega
          have hSS : S = ss.set j (strOf u) := by
            rw [← HS.out]; unfold wrL; rw [HOK.out, if_pos rfl, HU.out, HBE.out]; congr 1; omega
          have HSS := hide hSS
          have HJ := hide hj
          clear hSS hj
          go_upto_region 8 with fail
          refine wp_region_last (fun z => z.cell? ⟨b8, 0, none⟩ = some (.slice (some ⟨g, 0, none⟩) 2 cp) ∧ z.cell? ⟨w.heap.size, 0, none⟩ = some (.slice a 2 c) ∧ Below w4.heap.size w4 z) 7 (by kernel_rfl) (⟨cell_blk k8x 0, cell_blk k3x 0, (Below.refl _ _).drew⟩) (fun hSx => ?_)
          refine wpAnyK_take 2 (i := 0) (v := ?_) rfl (by kernel_rfl) (by kernel_rfl) (by kernel_rfl) (by kernel_rfl) (fun _ _ _ h => h) (Or.inl ⟨by rfl, ?_⟩) (by assumption) ?_
          rotate_left
          · intro w hSw; (try dsimp only at hSw); go_simp; try with_reducible rfl
          try simp only [Act.put, List.getElem_toArray, List.getElem_cons_zero, List.getElem_cons_succ, List.setIfInBounds_toArray, List.set_cons_zero, List.set_cons_succ]
          refine wpAnyK_take 2 (i := 1) (v := ?_) rfl (by kernel_rfl) (by kernel_rfl) (by kernel_rfl) (by kernel_rfl) (fun _ _ _ h => h) (Or.inl ⟨by rfl, ?_⟩) (by assumption) ?_
          rotate_left
          · intro w hSw; (try dsimp only at hSw); go_simp; try with_reducible rfl
          try simp only [Act.put, List.getElem_toArray, List.getElem_cons_zero, List.getElem_cons_succ, List.setIfInBounds_toArray, List.set_cons_zero, List.set_cons_succ]
          refine wpAnyK_take 2 (i := 2) (v := ?_) rfl (by kernel_rfl) (by kernel_rfl) (by kernel_rfl) (by kernel_rfl) (fun _ _ _ h => h) (Or.inl ⟨by rfl, ?_⟩) (by assumption) ?_
          rotate_left
          · intro w hSw; (try dsimp only at hSw); go_simp; try with_reducible rfl
          try simp only [Act.put, List.getElem_toArray, List.getElem_cons_zero, List.getElem_cons_succ, List.setIfInBounds_toArray, List.set_cons_zero, List.set_cons_succ]
          refine wpAnyK_take 2 (i := 5) (v := ?_) rfl (by kernel_rfl) (by kernel_rfl) (by kernel_rfl) (by kernel_rfl) (fun _ _ _ h => h) (Or.inl ⟨by rfl, ?_⟩) (by assumption) ?_
          rotate_left
          · intro w hSw; (try dsimp only at hSw); go_simp; try with_reducible rfl
          try simp only [Act.put, List.getElem_toArray, List.getElem_cons_zero, List.getElem_cons_succ, List.setIfInBounds_toArray, List.set_cons_zero, List.set_cons_succ]
          refine wpAnyK_one (i := 3) (by kernel_rfl) rfl (fun K hK => ?_)
          go_simp
          (refine (impl_newest a 2 c ss b _ (HA.out.below (hBx.trans ((Below.refl _ _).drew)) (Nat.le_refl _)) hs HSZ.out HBE.out (HG.out.below (hBx.trans ((Below.refl _ _).drew)))).mono ?_; rintro ex v ⟨rfl, hvd⟩; have hv : Below w4.heap.size w4 v := below_drew2 hvd; have hsv := hv.size; have hOv := own_next hOx hv; have ec := hOv.cellAt j (by omega); have ef := hOv.frozenAt j; (rw [List.getElem?_eq_getElem (by rw [hOv.1]; omega)] at ec); refine hK.out _ _ (.inr ⟨((bcell hv).1 b8 0 (by omega)).trans (cell_blk k8x 0), ((bcell hv).1 w.heap.size 0 (by omega)).trans (cell_blk k3x 0), hv⟩) (fun hSy => ?_))
          clear hSx hK K
          have hSx := hSy.resolve_left (by decide); clear hSy
          try simp only [Act.put, List.getElem_toArray, List.getElem_cons_zero, List.getElem_cons_succ, List.setIfInBounds_toArray, List.set_cons_zero, List.set_cons_succ]
          refine wpAnyK_take 2 (i := 4) (v := ?_) rfl (by kernel_rfl) (by kernel_rfl) (by kernel_rfl) (by kernel_rfl) (fun _ _ _ h => h) (Or.inl ⟨by rfl, ?_⟩) (by assumption) ?_
          rotate_left
          · intro w hSw; (try dsimp only at hSw); go_simp; try with_reducible rfl
          try simp only [Act.put, List.getElem_toArray, List.getElem_cons_zero, List.getElem_cons_succ, List.setIfInBounds_toArray, List.set_cons_zero, List.set_cons_succ]
          refine wpAnyK_take 2 (i := 6) (v := ?_) rfl (by kernel_rfl) (by kernel_rfl) (by kernel_rfl) (by kernel_rfl) (fun _ _ _ h => h) (Or.inl ⟨by rfl, ?_⟩) (by assumption) ?_
          rotate_left
          · intro w hSw; (try dsimp only at hSw); go_simp; try with_reducible rfl
          try simp only [Act.put, List.getElem_toArray, List.getElem_cons_zero, List.getElem_cons_succ, List.setIfInBounds_toArray, List.set_cons_zero, List.set_cons_succ]
          refine wpAnyK_one (i := 7) (by kernel_rfl) rfl (fun K hK => ?_)
          go_simp
          skip
          refine hK.out _ _ (.inl rfl) (fun _ => ?_)
          clear hSx hK K
          try simp only [Act.put, List.getElem_toArray, List.getElem_cons_zero, List.getElem_cons_succ, List.setIfInBounds_toArray, List.set_cons_zero, List.set_cons_succ]
          refine wpAnyK_done (by kernel_rfl) ?_ _
          have k8v := blk_below2 hv k8x; have k6v := blk_below2 hv k6x
          have e8 := cell_blk k8v 0; have e6 := cell_blk k6v 0; have f6 := free_blk k6v 0
          have hst := hOv.stored j (.string (strOf u))
          have HST := hide hst.1
          have hBv : Below w.heap.size w v := hBx.trans (hv.mono hBx.size)
          clear hst ec ef hOv
          go_wp2_with fail
          refine bodyPost_ret (by simp [results, Tryd.results29, go_sem, *]; try rfl) rfl ?_
          refine ⟨_, _, rfl, ?_, Below.setCell (Below.setCell hBv (by simp only; omega) _) (by simp only; omega) _⟩
          rw [HSS.out, ← set_str]
          exact own_base (ownsRow_setCell_below HST.out (by simp only; omega) _) (by omega)
        · have hbt : btw bytes 0 ((t.length : Int) - 1) = false := by
            cases h : btw bytes 0 ((t.length : Int) - 1) with
            | false => rfl
            | true => have := btw_true.1 h; exact absurd ⟨by omega, by omega⟩ hcut
          obtain ⟨u, hu⟩ : ∃ u, t = u := ⟨_, rfl⟩
          have HU : Hid (cutT (wrT ss list) bytes = u) := hide (by rw [HT.out]; unfold cutT; rw [if_neg hcut, hu])
          subst hu
          clear hcut
          go_wp2_with fail
          refine (btw_is 40 bytes 0 ((t.length : Int) - 1) false _ hbt (impl_between _ _ _ _)).mono ?_
          rintro e w4 ⟨rfl, h4⟩
          replace k3x := blk_below2 h4 k3x; replace k6x := blk_below2 h4 k6x; replace k8x := blk_below2 h4 k8x
          replace hOx := own_next hOx h4
          have hs4 := h4.size
          replace hBx := bthenS hBx h4
          clear e3 hbt
          obtain ⟨g, rfl, hg1, hg2, _⟩ := HGB.out (by omega)
          have hgb : g < b8 := by have := HB8.out; omega
          obtain ⟨j, hj⟩ : ∃ j : Nat, 1 - b = j := ⟨_, rfl⟩
          have hjw : IntKind.i64.wrap (1 - (b : Int)) = (j : Int) := by rw [IntWalk.i64_in _ (by omega)]; omega
          have hj0 : (0 : Int) ≤ (j : Int) := by omega
          have hj1 : (j : Int) < (2 : Int) := by omega
          have hSS : S = ss.set j (strOf t) := by
            rw [← HS.out]; unfold wrL; rw [HOK.out, if_pos rfl, HU.out, HBE.out]; congr 1; omega
          have HSS := hide hSS
          have HJ := hide hj
          clear hSS hj
          go_upto_region 8 with fail
          refine wp_region_last (fun z => z.cell? ⟨b8, 0, none⟩ = some (.slice (some ⟨g, 0, none⟩) 2 cp) ∧ z.cell? ⟨w.heap.size, 0, none⟩ = some (.slice a 2 c) ∧ Below w4.heap.size w4 z) 7 (by kernel_rfl) (⟨cell_blk k8x 0, cell_blk k3x 0, (Below.refl _ _).drew⟩) (fun hSx => ?_)
          refine wpAnyK_take 2 (i := 0) (v := ?_) rfl (by kernel_rfl) (by kernel_rfl) (by kernel_rfl) (by kernel_rfl) (fun _ _ _ h => h) (Or.inl ⟨by rfl, ?_⟩) (by assumption) ?_
          rotate_left
          · intro w hSw; (try dsimp only at hSw); go_simp; try with_reducible rfl
          try simp only [Act.put, List.getElem_toArray, List.getElem_cons_zero, List.getElem_cons_succ, List.setIfInBounds_toArray, List.set_cons_zero, List.set_cons_succ]
          refine wpAnyK_take 2 (i := 1) (v := ?_) rfl (by kernel_rfl) (by kernel_rfl) (by kernel_rfl) (by kernel_rfl) (fun _ _ _ h => h) (Or.inl ⟨by rfl, ?_⟩) (by assumption) ?_
          rotate_left
          · intro w hSw; (try dsimp only at hSw); go_simp; try with_reducible rfl
          try simp only [Act.put, List.getElem_toArray, List.getElem_cons_zero, List.getElem_cons_succ, List.setIfInBounds_toArray, List.set_cons_zero, List.set_cons_succ]
          refine wpAnyK_take 2 (i := 2) (v := ?_) rfl (by kernel_rfl) (by kernel_rfl) (by kernel_rfl) (by kernel_rfl) (fun _ _ _ h => h) (Or.inl ⟨by rfl, ?_⟩) (by assumption) ?_
          rotate_left
          · intro w hSw; (try dsimp only at hSw); go_simp; try with_reducible rfl
          try simp only [Act.put, List.getElem_toArray, List.getElem_cons_zero, List.getElem_cons_succ, List.setIfInBounds_toArray, List.set_cons_zero, List.set_cons_succ]
          refine wpAnyK_take 2 (i := 5) (v := ?_) rfl (by kernel_rfl) (by kernel_rfl) (by kernel_rfl) (by kernel_rfl) (fun _ _ _ h => h) (Or.inl ⟨by rfl, ?_⟩) (by assumption) ?_
          rotate_left
          · intro w hSw; (try dsimp only at hSw); go_simp; try with_reducible rfl
          try simp only [Act.put, List.getElem_toArray, List.getElem_cons_zero, List.getElem_cons_succ, List.setIfInBounds_toArray, List.set_cons_zero, List.set_cons_succ]
          refine wpAnyK_one (i := 3) (by kernel_rfl) rfl (fun K hK => ?_)
          go_simp
          (refine (impl_newest a 2 c ss b _ (HA.out.below (hBx.trans ((Below.refl _ _).drew)) (Nat.le_refl _)) hs HSZ.out HBE.out (HG.out.below (hBx.trans ((Below.refl _ _).drew)))).mono ?_; rintro ex v ⟨rfl, hvd⟩; have hv : Below w4.heap.size w4 v := below_drew2 hvd; have hsv := hv.size; have hOv := own_next hOx hv; have ec := hOv.cellAt j (by omega); have ef := hOv.frozenAt j; (rw [List.getElem?_eq_getElem (by rw [hOv.1]; omega)] at ec); refine hK.out _ _ (.inr ⟨((bcell hv).1 b8 0 (by omega)).trans (cell_blk k8x 0), ((bcell hv).1 w.heap.size 0 (by omega)).trans (cell_blk k3x 0), hv⟩) (fun hSy => ?_))
          clear hSx hK K
          have hSx := hSy.resolve_left (by decide); clear hSy
          try simp only [Act.put, List.getElem_toArray, List.getElem_cons_zero, List.getElem_cons_succ, List.setIfInBounds_toArray, List.set_cons_zero, List.set_cons_succ]
          refine wpAnyK_take 2 (i := 4) (v := ?_) rfl (by kernel_rfl) (by kernel_rfl) (by kernel_rfl) (by kernel_rfl) (fun _ _ _ h => h) (Or.inl ⟨by rfl, ?_⟩) (by assumption) ?_
          rotate_left
          · intro w hSw; (try dsimp only at hSw); go_simp; try with_reducible rfl
          try simp only [Act.put, List.getElem_toArray, List.getElem_cons_zero, List.getElem_cons_succ, List.setIfInBounds_toArray, List.set_cons_zero, List.set_cons_succ]
          refine wpAnyK_take 2 (i := 6) (v := ?_) rfl (by kernel_rfl) (by kernel_rfl) (by kernel_rfl) (by kernel_rfl) (fun _ _ _ h => h) (Or.inl ⟨by rfl, ?_⟩) (by assumption) ?_
          rotate_left
          · intro w hSw; (try dsimp only at hSw); go_simp; try with_reducible rfl
          try simp only [Act.put, List.getElem_toArray, List.getElem_cons_zero, List.getElem_cons_succ, List.setIfInBounds_toArray, List.set_cons_zero, List.set_cons_succ]
          refine wpAnyK_one (i := 7) (by kernel_rfl) rfl (fun K hK => ?_)
          go_simp
          skip
          refine hK.out _ _ (.inl rfl) (fun _ => ?_)
          clear hSx hK K
          try simp only [Act.put, List.getElem_toArray, List.getElem_cons_zero, List.getElem_cons_succ, List.setIfInBounds_toArray, List.set_cons_zero, List.set_cons_succ]
          refine wpAnyK_done (by kernel_rfl) ?_ _
          have k8v := blk_below2 hv k8x; have k6v := blk_below2 hv k6x
          have e8 := cell_blk k8v 0; have e6 := cell_blk k6v 0; have f6 := free_blk k6v 0
          have hst := hOv.stored j (.string (strOf t))
          have HST := hide hst.1
          have hBv : Below w.heap.size w v := hBx.trans (hv.mono hBx.size)
          clear hst ec ef hOv
          go_wp2_with fail
          refine bodyPost_ret (by simp [results, Tryd.results29, go_sem, *]; try rfl) rfl ?_
          refine ⟨_, _, rfl, ?_, Below.setCell (Below.setCell hBv (by simp only; omega) _) (by simp only; omega) _⟩
          rw [HSS.out, ← set_str]
          exact own_base (ownsRow_setCell_below HST.out (by simp only; omega) _) (by omega)
      · have htz : t = [] := List.isEmpty_iff.1 ht0
        have HW : Hid (wrOk ss list = false) := hide (by unfold wrOk; rw [HT.out, ht0]; simp)
        subst htz
        have z1 : (strOf []).toList = [] := by rw [ByteArray.toList_eq, strOf_data]
        have hk := HW.out
        obtain rfl : ss = S := by rw [← HS.out, wrL_no hk]
        obtain rfl : false = ok := by rw [← HOK.out, hk]
        clear hk
        clear hbest ht0
        have e8 := cell_blk k8x 0; have e6 := cell_blk k6x 0; have f6 := free_blk k6x 0
        go_wp2_with fail
        refine bodyPost_ret (by simp [results, Tryd.results29, go_sem, *]; try rfl) rfl ?_
        exact ⟨_, _, rfl, own_base (ownsRow_setCell_below hOx (by simp only; omega) _) (by omega), Below.setCell hBx (by simp only; omega) _⟩
  · have HW : Hid (wrOk ss list = false) := hide (by unfold wrOk; rw [decide_eq_false (by omega)]; rfl)
    have hnn : ((n : Int) != 2) = true := by rw [bne_iff_ne]; omega
    have hk := HW.out
    obtain rfl : ss = S := by rw [← HS.out, wrL_no hk]
    obtain rfl : false = ok := by rw [← HOK.out, hk]
    clear hk
    skip
    have e8 := cell_blk k8x 0; have e6 := cell_blk k6x 0; have f6 := free_blk k6x 0
    go_wp2_with fail
    refine bodyPost_ret (by simp [results, Tryd.results29, go_sem, *]; try rfl) rfl ?_
    exact ⟨_, _, rfl, own_base (ownsRow_setCell_below hOx (by simp only; omega) _) (by omega), Below.setCell hBx (by simp only; omega) _⟩
set_option maxRecDepth 100000 in
set_option maxHeartbeats 4000000 in
theorem spec_LogWrite (a : Option Addr) (n c : Nat) (ss : List ByteArray) (a2 : Option Addr) (n2 c2 : Nat) (list : List En) (bytes : Int) (S : List ByteArray) (ok : Bool) (w : World)
    (ha : IsStrs w a n c ss) (hs : n ≤ 1048576) (hsz : ∀ s ∈ ss, s.size ≤ 1048576) (ha2 : IsStructs enF 3 w a2 n2 c2 list) (hs2' : n2 ≤ 1048576) (hS : wrL ss list bytes = S) (hok : wrOk ss list = ok) :
    Calls Tryd.prog 28 #[.agg #[.slice a n c], .slice a2 n2 c2, .int .i64 bytes] w (GotLog w n S ok) := by
  have HA := hide ha; have HSZ := hide hsz; have HA2 := hide ha2; have HS := hide hS; have HOK := hide hok
  have hln := ha.1
  have hc := ha.2.1
  have hc2 := ha2.2.1
  clear ha hsz ha2 hS hok
  obtain ⟨i0_string, hi_string, hz0_string, hz1_string, hz2_string⟩ := info_parts info_string
  go_enter Tryd.func28, Tryd.ntmps28
  have HB0 : Below w.heap.size w (((w.alloc (.cells #[.slice a n c] 35)).alloc (.cells #[.slice none 0 0] 35)).alloc (.cells #[] 9)) := by go_grown
  have HA0 := hide (HA.out.below HB0 (Nat.le_refl _))
  have HO0 : Hid ((((w.alloc (.cells #[.slice a n c] 35)).alloc (.cells #[.slice none 0 0] 35)).alloc (.cells #[] 9)).ownsRow (w.heap.size + 1 + 1) 9 1 (.slice (some ⟨w.heap.size + 1 + 1, 0, none⟩) 0 0) 0 []) := hide (by
    have h := World.ownsRow_made (base := w.heap.size + 1 + 1) (e := 9) (size := 1) ((w.alloc (.cells #[.slice a n c] 35)).alloc (.cells #[.slice none 0 0] 35)) #[] 0 (by simp) (by decide) rfl
    simp only [World.size_alloc] at h; exact h)
  go_wp2_with (at_builtin; refine wpList_append_any rfl _ _ 33 rfl (w.heap.size + 1 + 1) 9 i0_string (.string { data := #[] }) 1 16 Tryd.underlying33 hi_string hz0_string hz1_string hz2_string rfl (by decide) _ _ _ rfl (HO0.out) _ _ _ _ rfl (by rw [List.length_map, HA.out.1, Nat.mul_one]) HA0.out.2.2.2.2 (str_ones _) ?c3p ?c4p ?c5p ?_)
  case c3p => unfold maxLen; omega
  case c4p => omega
  case c5p => (first | go_size | (simp; omega))
  intro v' wp hownp hgp
  obtain ⟨ap, cp, rfl⟩ := own_shape hownp
  have hBp := below_grown HB0 (HO0.out) (by omega) (by go_size) hgp
  have hsp := hgp.size
  (try simp only [World.size_alloc] at hsp)
  have HGp := hide hgp; clear hgp
  have k3p : wp.heap[w.heap.size]? = some (.cells #[.slice a n c] 35 (0, 0)) := (HGp.out.block _ (by simp; omega) (by simp [Value.ownBlock]; omega)).trans (by rw [alloc_lt _ _ _ (by simp; omega), alloc_lt _ _ _ (by simp)]; exact alloc_at _ _ _ rfl)
  have k6p : wp.heap[w.heap.size + 1]? = some (.cells #[.slice none 0 0] 35 (0, 0)) := (HGp.out.block _ (by simp) (by simp [Value.ownBlock])).trans (by rw [alloc_lt _ _ _ (by simp)]; exact alloc_at _ _ _ (by simp))
  (try simp only [List.nil_append, Nat.zero_add] at hownp)
  obtain ⟨b8, hb8⟩ : ∃ b8, b8 = wp.heap.size := ⟨_, rfl⟩
  have k3 : (wp.alloc (.cells #[.slice ap n cp] 35)).heap[w.heap.size]? = some (.cells #[.slice a n c] 35 (0, 0)) := by rw [alloc_lt _ _ _ (by omega)]; exact k3p
  have k6 : (wp.alloc (.cells #[.slice ap n cp] 35)).heap[w.heap.size + 1]? = some (.cells #[.slice none 0 0] 35 (0, 0)) := by rw [alloc_lt _ _ _ (by omega)]; exact k6p
  have k8 : (wp.alloc (.cells #[.slice ap n cp] 35)).heap[b8]? = some (.cells #[.slice ap n cp] 35 (0, 0)) := alloc_at _ _ _ hb8
  have e3 := cell_blk k3 0
  have hB1 : Below w.heap.size w (wp.alloc (.cells #[.slice ap n cp] 35)) := Below.alloc hBp (by omega) _
  have hO1 := hownp.alloc (.cells #[.slice ap n cp] 35)
  have hs8 : w.heap.size + 1 + 1 + 1 ≤ b8 := by omega
  have hs1 : b8 + 1 ≤ (wp.alloc (.cells #[.slice ap n cp] 35)).heap.size := by simp; omega
  have HGB := hide (fun (hn : 0 < n) => own_some hownp hn)
  obtain ⟨N, hN⟩ : ∃ N, decN (rdL ss) = N := ⟨_, rfl⟩
  obtain ⟨ok0, hok0⟩ : ∃ ok, (rdL ss).isSome = ok := ⟨_, rfl⟩
  have hNb := rdL_num ss
  rw [hN] at hNb
  obtain ⟨hN1, hN0⟩ := hNb
  obtain ⟨t, ht⟩ : ∃ t, wrT ss list = t := ⟨_, rfl⟩
  have ht2 : enc (N + 1) list = t := by rw [← ht, ← hN]; rfl
  have HT2 := hide ht2; have HT := hide ht; have HN := hide hN; have HOK0 := hide hok0; have HB8 := hide hb8
  clear hN hok0 ht ht2 hb8 k3p k6p HGp hownp hBp HA0 HO0 hsp HB0
  go_upto_region 2 with fail
  rw [← HB8.out]
  generalize (wp.alloc (.cells #[.slice ap n cp] 35)) = W1 at *
  go_wp2_with fail
  rcases best_cases ss with hb | ⟨b, s, hb, hbl, hbs, hbo⟩
  · have HBE := hide hb
    have HW : Hid (wrOk ss list = false) := hide (by unfold wrOk; rw [hb]; simp)
    clear hb
    refine (spec_l26Best a n c ss (-1) _ (HA.out.below hB1 (Nat.le_refl _)) hs HSZ.out HBE.out).mono ?_
    rintro e w2 ⟨rfl, h2⟩
    have hBx := bthenS hB1 h2
    have k3x := blk_below2 h2 k3; have k6x := blk_below2 h2 k6; have k8x := blk_below2 h2 k8
    have hOx := own_next hO1 h2
    have hs2 := h2.size
    clear e3 k3 k6 k8 hO1
    by_cases hn2 : n = 2
    · subst hn2
      have hk := HW.out
      obtain rfl : ss = S := by rw [← HS.out, wrL_no hk]
      obtain rfl : false = ok := by rw [← HOK.out, hk]
      clear hk
      have e3 := cell_blk k3x 0
      have e8 := cell_blk k8x 0; have e6 := cell_blk k6x 0; have f6 := free_blk k6x 0
      go_wp2_with fail
      refine bodyPost_ret (by simp [results, Tryd.results28, go_sem, *]; try rfl) rfl ?_
      exact ⟨_, _, rfl, own_base (ownsRow_setCell_below hOx (by simp only; omega) _) (by omega), Below.setCell hBx (by simp only; omega) _⟩
    · have hnn : ((n : Int) != 2) = true := by rw [bne_iff_ne]; omega
      have hk := HW.out
      obtain rfl : ss = S := by rw [← HS.out, wrL_no hk]
      obtain rfl : false = ok := by rw [← HOK.out, hk]
      clear hk
      have e3 := cell_blk k3x 0
      have e8 := cell_blk k8x 0; have e6 := cell_blk k6x 0; have f6 := free_blk k6x 0
      go_wp2_with fail
      refine bodyPost_ret (by simp [results, Tryd.results28, go_sem, *]; try rfl) rfl ?_
      exact ⟨_, _, rfl, own_base (ownsRow_setCell_below hOx (by simp only; omega) _) (by omega), Below.setCell hBx (by simp only; omega) _⟩
  · have HBE := hide hb
    have HRD := hide (rdL_at hb hbs)
    have hss := HSZ.out s (List.mem_of_getElem? hbs)
    refine (spec_l26Best a n c ss b _ (HA.out.below hB1 (Nat.le_refl _)) hs HSZ.out HBE.out).mono ?_
    rintro e w2 ⟨rfl, h2⟩
    have hBx := bthenS hB1 h2
    have k3x := blk_below2 h2 k3; have k6x := blk_below2 h2 k6; have k8x := blk_below2 h2 k8
    have hOx := own_next hO1 h2
    have hs2 := h2.size
    clear e3 k3 k6 k8 hO1
    by_cases hn2 : n = 2
    · subst hn2
      have hl2 : decide (ss.length = 2) = true := decide_eq_true hln
      have hb2 : b < 2 := by omega
      have hbest : decide (0 ≤ bestOf ss) = true := by rw [hb]; simp
      obtain ⟨s', b1, o1, hs1', rfl, hlb, cs⟩ := HA.out.2.2.2.2.get (k := b) (by omega)
      obtain rfl : s = s' := by rw [hbs] at hs1'; exact Option.some.inj hs1'
      have es := ((bcell hBx).1 b1 _ hlb).trans cs
      have e3 := cell_blk k3x 0
      have t1 : decide ((b : Int) < 0) = false := decide_eq_false (by omega)
      have i0 : (0 : Int) ≤ (b : Int) := by omega
      have i1 : (b : Int) < 2 := by omega
      clear hb hbs hbo hs1' cs
      go_wp2_with fail
      refine (spec_DecodeErrors s N _ _ true _ hss (by rw [← dcd_same, ← HRD.out]; exact HN.out) rfl rfl (by rw [← dcd_same, ← HRD.out, rdL_ok]; exact hbest)).mono ?_
      rintro e w3 ⟨ar, cr, rfl, _, h3⟩
      replace hBx := bthenS hBx h3
      replace k3x := blk_below2 h3 k3x; replace k6x := blk_below2 h3 k6x; replace k8x := blk_below2 h3 k8x
      replace hOx := own_next hOx h3
      have hs3 := h3.size
      clear e3 es
      have hsN : IntKind.i64.wrap (N + 1) = N + 1 := IntWalk.i64_in _ (by omega)
      go_wp2_with fail
      refine (spec_EncodeErrors (N + 1) a2 n2 c2 list t _ (HA2.out.below hBx (Nat.le_refl _)) hs2' HT2.out).mono ?_
      rintro e w4 ⟨rfl, h4⟩
      replace hBx := bthenS hBx h4
      replace k3x := blk_below2 h4 k3x; replace k6x := blk_below2 h4 k6x; replace k8x := blk_below2 h4 k8x
      replace hOx := own_next hOx h4
      have hs4 := h4.size
      clear hsN
      cases ht0 : t.isEmpty
      · have HW : Hid (wrOk ss list = true) := hide (by unfold wrOk; rw [hl2, hbest, HT.out, ht0]; rfl)
        obtain rfl : true = ok := by rw [← HOK.out, HW.out]
        have htne : t ≠ [] := fun h => by rw [h] at ht0; cases ht0
        have htok : encOk (N + 1) list = true := by
          cases h : encOk (N + 1) list with
          | true => rfl
          | false => exact absurd (by rw [← HT2.out]; exact enc_no h) htne
        have htl : t.length ≤ 82 := by rw [← HT2.out]; unfold enc; rw [if_pos htok]; exact (encB_len htok).1
        have htp : 1 ≤ t.length := List.length_pos_iff.2 htne
        have hts : (strOf t).size = t.length := rfl
        have z1 : ¬ (strOf t).toList = [] := by rw [ByteArray.toList_eq, strOf_data]; exact htne
        have z2 : (strOf t).toList.isEmpty = false := by rw [ByteArray.toList_eq, strOf_data]; exact ht0
        clear hbest htne htok ht0 hl2
        by_cases hcut : 0 ≤ bytes ∧ bytes < (t.length : Int)
        · obtain ⟨q, rfl⟩ : ∃ q : Nat, bytes = (q : Int) := ⟨bytes.toNat, by omega⟩
          obtain ⟨u, hu⟩ : ∃ u, t.take q = u := ⟨_, rfl⟩
          have HU : Hid (cutT (wrT ss list) (q : Int) = u) := hide (by rw [HT.out]; unfold cutT; rw [if_pos ⟨by omega, by omega⟩, Int.toNat_natCast, hu])
          have hex : (strOf t).extract 0 q = strOf u := by
            rw [← hu]; apply ByteArray.ext; apply Array.toList_inj.1; rw [Go.Lib.extract_from_zero]; rfl
          have hq1 : q ≤ t.length := by omega
          have c1 : decide ((q : Int) ≥ 0) = true := decide_eq_true (by omega)
          have c2' : decide (q < t.length) = true := decide_eq_true (by omega)
          have c3' : q < t.length := by omega
          clear hu hcut
          obtain ⟨g, rfl, hg1, hg2, _⟩ := HGB.out (by omega)
          have hgb : g < b8 := by have := HB8.out; omega
          obtain ⟨j, hj⟩ : ∃ j : Nat, 1 - b = j := ⟨_, rfl⟩
          have hjw : IntKind.i64.wrap (1 - (b : Int)) = (j : Int) := by rw [IntWalk.i64_in _ (by omega)]; omega
          have hj0 : (0 : Int) ≤ (j : Int) := by omega
          have hj1 : (j : Int) < (2 : Int) := by omega
          have hSS : S = ss.set j (strOf u) := by
            rw [← HS.out]; unfold wrL; rw [HOK.out, if_pos rfl, HU.out, HBE.out]; congr 1; omega
          have HSS := hide hSS
          have HJ := hide hj
          clear hSS hj
          have ec := hOx.cellAt j (by omega)
          have ef := hOx.frozenAt j
          rw [List.getElem?_eq_getElem (by rw [hOx.1]; omega)] at ec
          have hjt : 1 - (b : Int) = (j : Int) := by have := HJ.out; omega
          have e8 := cell_blk k8x 0; have e6 := cell_blk k6x 0; have f6 := free_blk k6x 0
          have HST := hide (hOx.stored j (.string (strOf u))).1
          go_wp2_with fail
          refine bodyPost_ret (by simp [results, Tryd.results28, go_sem, *]; try rfl) rfl ?_
          refine ⟨_, _, rfl, ?_, Below.setCell (Below.setCell hBx (by simp only; omega) _) (by simp only; omega) _⟩
          rw [HSS.out, ← set_str]
          exact own_base (ownsRow_setCell_below HST.out (by simp only; omega) _) (by omega)
        · obtain ⟨u, hu⟩ : ∃ u, t = u := ⟨_, rfl⟩
          have HU : Hid (cutT (wrT ss list) bytes = u) := hide (by rw [HT.out]; unfold cutT; rw [if_neg hcut, hu])
          subst hu
          by_cases c0 : 0 ≤ bytes
          · have c1 : decide (bytes ≥ 0) = true := decide_eq_true (by omega)
            have c2' : decide (bytes < (t.length : Int)) = false := decide_eq_false (by omega)
            clear hcut
            obtain ⟨g, rfl, hg1, hg2, _⟩ := HGB.out (by omega)
            have hgb : g < b8 := by have := HB8.out; omega
            obtain ⟨j, hj⟩ : ∃ j : Nat, 1 - b = j := ⟨_, rfl⟩
            have hjw : IntKind.i64.wrap (1 - (b : Int)) = (j : Int) := by rw [IntWalk.i64_in _ (by omega)]; omega
            have hj0 : (0 : Int) ≤ (j : Int) := by omega
            have hj1 : (j : Int) < (2 : Int) := by omega
            have hSS : S = ss.set j (strOf t) := by
              rw [← HS.out]; unfold wrL; rw [HOK.out, if_pos rfl, HU.out, HBE.out]; congr 1; omega
            have HSS := hide hSS
            have HJ := hide hj
            clear hSS hj
            have ec := hOx.cellAt j (by omega)
            have ef := hOx.frozenAt j
            rw [List.getElem?_eq_getElem (by rw [hOx.1]; omega)] at ec
            have hjt : 1 - (b : Int) = (j : Int) := by have := HJ.out; omega
            have e8 := cell_blk k8x 0; have e6 := cell_blk k6x 0; have f6 := free_blk k6x 0
            have HST := hide (hOx.stored j (.string (strOf t))).1
            go_wp2_with fail
            refine bodyPost_ret (by simp [results, Tryd.results28, go_sem, *]; try rfl) rfl ?_
            refine ⟨_, _, rfl, ?_, Below.setCell (Below.setCell hBx (by simp only; omega) _) (by simp only; omega) _⟩
            rw [HSS.out, ← set_str]
            exact own_base (ownsRow_setCell_below HST.out (by simp only; omega) _) (by omega)
          · have c1 : decide (bytes ≥ 0) = false := decide_eq_false (by omega)
            clear hcut
            obtain ⟨g, rfl, hg1, hg2, _⟩ := HGB.out (by omega)
            have hgb : g < b8 := by have := HB8.out; omega
            obtain ⟨j, hj⟩ : ∃ j : Nat, 1 - b = j := ⟨_, rfl⟩
            have hjw : IntKind.i64.wrap (1 - (b : Int)) = (j : Int) := by rw [IntWalk.i64_in _ (by omega)]; omega
            have hj0 : (0 : Int) ≤ (j : Int) := by omega
            have hj1 : (j : Int) < (2 : Int) := by omega
            have hSS : S = ss.set j (strOf t) := by
              rw [← HS.out]; unfold wrL; rw [HOK.out, if_pos rfl, HU.out, HBE.out]; congr 1; omega
            have HSS := hide hSS
            have HJ := hide hj
            clear hSS hj
            have ec := hOx.cellAt j (by omega)
            have ef := hOx.frozenAt j
            rw [List.getElem?_eq_getElem (by rw [hOx.1]; omega)] at ec
            have hjt : 1 - (b : Int) = (j : Int) := by have := HJ.out; omega
            have e8 := cell_blk k8x 0; have e6 := cell_blk k6x 0; have f6 := free_blk k6x 0
            have HST := hide (hOx.stored j (.string (strOf t))).1
            go_wp2_with fail
            refine bodyPost_ret (by simp [results, Tryd.results28, go_sem, *]; try rfl) rfl ?_
            refine ⟨_, _, rfl, ?_, Below.setCell (Below.setCell hBx (by simp only; omega) _) (by simp only; omega) _⟩
            rw [HSS.out, ← set_str]
            exact own_base (ownsRow_setCell_below HST.out (by simp only; omega) _) (by omega)
      · have htz : t = [] := List.isEmpty_iff.1 ht0
        have HW : Hid (wrOk ss list = false) := hide (by unfold wrOk; rw [HT.out, ht0]; simp)
        subst htz
        have z1 : (strOf []).toList = [] := by rw [ByteArray.toList_eq, strOf_data]
        clear ht0 hbest
        have hk := HW.out
        obtain rfl : ss = S := by rw [← HS.out, wrL_no hk]
        obtain rfl : false = ok := by rw [← HOK.out, hk]
        clear hk
        have e3 := cell_blk k3x 0
        have e8 := cell_blk k8x 0; have e6 := cell_blk k6x 0; have f6 := free_blk k6x 0
        go_wp2_with fail
        refine bodyPost_ret (by simp [results, Tryd.results28, go_sem, *]; try rfl) rfl ?_
        exact ⟨_, _, rfl, own_base (ownsRow_setCell_below hOx (by simp only; omega) _) (by omega), Below.setCell hBx (by simp only; omega) _⟩
    · have HW : Hid (wrOk ss list = false) := hide (by unfold wrOk; rw [decide_eq_false (by omega)]; rfl)
      have hnn : ((n : Int) != 2) = true := by rw [bne_iff_ne]; omega
      clear hb hbs hbo
      have hk := HW.out
      obtain rfl : ss = S := by rw [← HS.out, wrL_no hk]
      obtain rfl : false = ok := by rw [← HOK.out, hk]
      clear hk
      have e3 := cell_blk k3x 0
      have e8 := cell_blk k8x 0; have e6 := cell_blk k6x 0; have f6 := free_blk k6x 0
      go_wp2_with fail
      refine bodyPost_ret (by simp [results, Tryd.results28, go_sem, *]; try rfl) rfl ?_
      exact ⟨_, _, rfl, own_base (ownsRow_setCell_below hOx (by simp only; omega) _) (by omega), Below.setCell hBx (by simp only; omega) _⟩
end Go.Proofs.YtheifhjnbpbkhaaDoor
