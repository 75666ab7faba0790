/- ErrorAdd of the program and of the reference. -/
import Derived.Test.YtheifhjnbpbkhaaDoorErrors3
set_option linter.unusedSimpArgs false
set_option linter.unusedVariables false
namespace Go.Proofs.YtheifhjnbpbkhaaDoor
open Go.RowKit Go.ChangeShapes Go.WideShapes Go.ChangeAt Go.Joins Go.Deep
open Go.ChangeMaps (open_string shut_string)
def newEn (line code : Int) : En := ⟨line, code, 1⟩
def bumped (e : En) : En := ⟨e.line, e.code, min (e.times + 1) 999⟩
def addOk (es : List En) (line code : Int) : Bool := errorsOkB es && entryOk (newEn line code)
def bumpAt (es : List En) (i : Int) : List En := match es[i.toNat]? with | some e => es.set i.toNat (bumped e) | none => es
def addL (es : List En) (line code : Int) : List En :=
  if addOk es line code = true then (if 0 ≤ errAt es line code then bumpAt es (errAt es line code) else if 6 ≤ es.length then es.drop 1 ++ [newEn line code] else es ++ [newEn line code]) else es
theorem bumpAt_at {es : List En} {m : Nat} {f : En} (h : es[m]? = some f) : bumpAt es m = es.set m (bumped f) := by unfold bumpAt; rw [Int.toNat_natCast, h]
theorem addL_no {es : List En} {line code : Int} (h : addOk es line code = false) : addL es line code = es := by unfold addL; rw [if_neg (by rw [h]; simp)]
theorem addL_hit {es : List En} {line code : Int} {m : Nat} {f : En} (h : addOk es line code = true) (hm : errAt es line code = m) (hf : es[m]? = some f) : addL es line code = es.set m (bumped f) := by
  unfold addL; rw [if_pos h, hm, if_pos (by omega), bumpAt_at hf]
theorem addL_full {es : List En} {line code : Int} (h : addOk es line code = true) (hm : errAt es line code = -1) (hl : es.length = 6) : addL es line code = es.drop 1 ++ [newEn line code] := by
  unfold addL; rw [if_pos h, hm, if_neg (by omega), if_pos (by omega)]
theorem addL_new {es : List En} {line code : Int} (h : addOk es line code = true) (hm : errAt es line code = -1) (hl : es.length < 6) : addL es line code = es ++ [newEn line code] := by
  unfold addL; rw [if_pos h, hm, if_neg (by omega), if_neg (by omega)]
theorem errorsOk_len {es : List En} (h : errorsOkB es = true) : es.length ≤ 6 := by
  unfold errorsOkB at h
  rw [Bool.and_eq_true] at h
  simpa using h.1
theorem addOk_ok {es : List En} {line code : Int} (h : addOk es line code = true) : errorsOkB es = true := by unfold addOk at h; rw [Bool.and_eq_true] at h; exact h.1
theorem times_bd {es : List En} {m : Nat} {f : En} (h : errorsOkB es = true) (hf : es[m]? = some f) : 1 ≤ f.times ∧ f.times ≤ 999 := by
  unfold errorsOkB errTo at h
  rw [Bool.and_eq_true, List.all_eq_true] at h
  have := h.2 m (List.mem_range.2 (List.getElem?_eq_some_iff.1 hf).1)
  rw [hf] at this
  simp only [Bool.and_eq_true, entryOk, btw_true] at this
  exact this.1.2.2
def GotErrs (w : World) (N : Nat) (es : List En) (ok : Bool) (e : Ending) (w' : World) : Prop :=
  ∃ a c, e = .returned (.tuple #[.slice a N c, .bool ok]) ∧ w'.ownsRow w.heap.size 58 3 (.slice a N c) N (es.flatMap enF) ∧ Below w.heap.size w w'

set_option maxRecDepth 100000 in
set_option maxHeartbeats 1000000 in
theorem impl_copyErrors (a : Option Addr) (n c : Nat) (es : List En) (w : World) (ha : IsStructs enF 3 w a n c es) (hs : n ≤ 2097152) :
    Calls Tryd.prog 55 #[.slice a n c] w (Fresh w 58 3 n (es.flatMap enF)) := by
  obtain ⟨i0_En, hi_En, hz0_En, hz1_En, hz2_En⟩ := info_parts info_En
  have HA := hide ha
  have hc := ha.2.1
  clear ha
  go_enter Tryd.func55, Tryd.ntmps55
  have hB0 : Below w.heap.size w (w.alloc (.cells #[] 58)) := (by repeat' (first | (with_reducible exact Below.refl _ _) | (with_reducible assumption) | (with_reducible refine bdrawn ?_ _) | (with_reducible refine Below.alloc ?_ ?_ _) | (with_reducible refine Below.drew ?_) | (with_reducible refine Below.setCell ?_ ?_ _) | go_size))
  have HA0 := hide (HA.out.below hB0 (Nat.le_refl _))
  have HO0 := hide (World.ownsRow_made (base := w.heap.size) (e := 58) (size := 3) w #[] 0 (Nat.le_refl _) (by decide) rfl)
  go_wp2_with (at_builtin; refine wpList_append_any rfl _ _ 25 rfl w.heap.size 58 i0_En (.agg #[.int .i64 0, .int .i64 0, .int .i64 0]) 3 24 Tryd.underlying25 hi_En hz0_En hz1_En hz2_En rfl (by decide) _ _ _ rfl (HO0.out) _ _ _ _ rfl (by rw [flat_len enF_len, HA.out.1]) HA0.out.2.2.2 (flat_ones (fun _ => rfl) _) ?c3p ?c4p ?c5p ?_)
  case c3p => unfold maxLen; omega
  case c4p => omega
  case c5p => (first | go_size | (simp; omega))
  intro v' wp hownp hgp
  obtain ⟨ap, cp, rfl⟩ := own_shape hownp
  have hBp := below_grown hB0 (HO0.out) (by omega) (by go_size) hgp
  have hsp := hgp.size
  (try simp only [World.size_alloc] at hsp)
  have HGp := hide hgp; clear hgp
  (try simp only [List.nil_append, Nat.zero_add] at hownp)
  go_wp2_with fail
  go_ret
  exact ⟨_, _, rfl, hownp, hBp⟩

set_option maxRecDepth 100000 in
set_option maxHeartbeats 2000000 in
theorem impl_ErrorAdd (a : Option Addr) (n c : Nat) (es : List En) (line code : Int) (N : Nat) (w : World) (ha : IsStructs enF 3 w a n c es) (hs : n ≤ 1048576) (hN : (addL es line code).length = N) :
    Calls Tryd.prog 32 #[.slice a n c, .int .i64 line, .int .i64 code] w (GotErrs w N (addL es line code) (addOk es line code)) := by
  obtain ⟨i0_En, hi_En, hz0_En, hz1_En, hz2_En⟩ := info_parts info_En
  have HA := hide ha; have HL := hide ha.1; have HN := hide hN
  have hc := ha.2.1
  clear ha hN
  go_enter Tryd.func32, Tryd.ntmps32
  go_wp2_with fail
  refine (impl_copyErrors _ _ _ es _ HA.out (by omega)).mono ?_
  rintro e wp ⟨ap, cp, rfl, hownp, hBp⟩
  have x := hide (Owned.of_own hownp)
  have hcp := own_caps hownp
  have hcp1 := hcp.1; have hcp2 : cp ≤ 9223372036854775807 := hcp.2
  have hsp := hBp.size
  clear hcp hownp
  cases hok : errorsOkB es
  · have HV := hide (show addOk es line code = false by unfold addOk; rw [hok]; rfl)
    obtain rfl : n = N := by rw [← HN.out, addL_no HV.out, HL.out]
    go_wp2_with fail
    refine (impl_ErrorsOk_is _ _ _ es false hok _ (HA.out.below hBp (Nat.le_refl _)) hs).mono ?_
    rintro e w1 ⟨rfl, h1⟩
    have s1 := h1.size
    try simp only [World.size_alloc, World.size_setCell, World.size_drew, World.heap_drewN] at s1
    have H1 : Below wp.heap.size wp w1 := bthen (by repeat' (first | (with_reducible exact Below.refl _ _) | (with_reducible assumption) | (with_reducible refine bdrawn ?_ _) | (with_reducible refine Below.alloc ?_ ?_ _) | (with_reducible refine Below.drew ?_) | (with_reducible refine Below.setCell ?_ ?_ _) | go_size)) h1 (by go_size)
    have C1 := (bcell H1).1; have F1 := (bcell H1).2
    have P1 : Below wp.heap.size wp w1 := bthen (by repeat' (first | (with_reducible exact Below.refl _ _) | (with_reducible assumption) | (with_reducible refine bdrawn ?_ _) | (with_reducible refine Below.alloc ?_ ?_ _) | (with_reducible refine Below.drew ?_) | (with_reducible refine Below.setCell ?_ ?_ _) | go_size)) h1 (by go_size)
    replace x := hide (x.out.below P1 (by omega))
    go_wp2_with fail
    go_returns
    rw [HV.out, addL_no HV.out]
    exact ⟨_, _, rfl, x.out.1, bthen hBp H1 (by omega)⟩
  · have hn6 : n ≤ 6 := by have := errorsOk_len hok; rw [HL.out] at this; exact this
    cases q1 : btw line 0 1023
    · have HV := hide (show addOk es line code = false by unfold addOk entryOk newEn; simp only; rw [q1]; simp)
      obtain rfl : n = N := by rw [← HN.out, addL_no HV.out, HL.out]
      go_wp2_with fail
      refine (impl_ErrorsOk_is _ _ _ es true hok _ (HA.out.below hBp (Nat.le_refl _)) hs).mono ?_
      rintro e w1 ⟨rfl, h1⟩
      have s1 := h1.size
      try simp only [World.size_alloc, World.size_setCell, World.size_drew, World.heap_drewN] at s1
      have H1 : Below wp.heap.size wp w1 := bthen (by repeat' (first | (with_reducible exact Below.refl _ _) | (with_reducible assumption) | (with_reducible refine bdrawn ?_ _) | (with_reducible refine Below.alloc ?_ ?_ _) | (with_reducible refine Below.drew ?_) | (with_reducible refine Below.setCell ?_ ?_ _) | go_size)) h1 (by go_size)
      have C1 := (bcell H1).1; have F1 := (bcell H1).2
      have P1 : Below wp.heap.size wp w1 := bthen (by repeat' (first | (with_reducible exact Below.refl _ _) | (with_reducible assumption) | (with_reducible refine bdrawn ?_ _) | (with_reducible refine Below.alloc ?_ ?_ _) | (with_reducible refine Below.drew ?_) | (with_reducible refine Below.setCell ?_ ?_ _) | go_size)) h1 (by go_size)
      replace x := hide (x.out.below P1 (by omega))
      go_wp2_with (first | (go_at_call 40; refine (impl_between _ _ _ _).mono ?_; rintro e w1 ⟨rfl, rfl⟩))
      go_returns
      rw [HV.out, addL_no HV.out]
      exact ⟨_, _, rfl, x.out.1, bthen hBp H1 (by omega)⟩
    · by_cases hc12 : code = 1 ∨ code = 2
      · have HV := hide (show addOk es line code = true by unfold addOk entryOk newEn; simp only; rw [hok, q1]; simpa [btw] using hc12)
        have HT6 := hide (fun m f (hf : es[m]? = some f) => times_bd hok hf)
        rcases hc12 with rfl | rfl
        · skip
          go_wp2_with fail
          refine (impl_ErrorsOk_is _ _ _ es true hok _ (HA.out.below hBp (Nat.le_refl _)) hs).mono ?_
          rintro e w1 ⟨rfl, h1⟩
          have s1 := h1.size
          try simp only [World.size_alloc, World.size_setCell, World.size_drew, World.heap_drewN] at s1
          have H1 : Below wp.heap.size wp w1 := bthen (by repeat' (first | (with_reducible exact Below.refl _ _) | (with_reducible assumption) | (with_reducible refine bdrawn ?_ _) | (with_reducible refine Below.alloc ?_ ?_ _) | (with_reducible refine Below.drew ?_) | (with_reducible refine Below.setCell ?_ ?_ _) | go_size)) h1 (by go_size)
          have C1 := (bcell H1).1; have F1 := (bcell H1).2
          have P1 : Below wp.heap.size wp w1 := bthen (by repeat' (first | (with_reducible exact Below.refl _ _) | (with_reducible assumption) | (with_reducible refine bdrawn ?_ _) | (with_reducible refine Below.alloc ?_ ?_ _) | (with_reducible refine Below.drew ?_) | (with_reducible refine Below.setCell ?_ ?_ _) | go_size)) h1 (by go_size)
          replace x := hide (x.out.below P1 (by omega))
          go_wp2_with (first | (go_at_call 40; refine (impl_between _ _ _ _).mono ?_; rintro e w1 ⟨rfl, rfl⟩))
          obtain ⟨x1, rfl⟩ : ∃ W : World, W = w1 := ⟨_, rfl⟩
          have HX := hide (isStructs_own enF_len (by omega) x.out.1)
          go_loopw [32] (fun i wr => ∃ k : Nat, k ≤ n ∧ i = .int .i64 k ∧ Hid (((es.take k).all fun e => !keyIs line 1 e) = true) ∧ Below x1.heap.size x1 wr) (fun i _ => n - (intOf i).toNat)
          case atStart => exact ⟨0, by omega, rfl, hide rfl, Below.refl _ _⟩
          case round =>
            obtain ⟨k, hk, rfl, HT, hB⟩ := hrel
            by_cases hlt : k < n
            · obtain ⟨e, he⟩ : ∃ e, es[k]? = some e := ⟨_, List.getElem?_eq_getElem (by rw [HL.out]; omega)⟩
              obtain ⟨g, rfl, hg0, hg1, hg2, hcell, hfr⟩ := x.out.some (by omega)
              have e0 : wr.cell? ⟨g, k * 3, none⟩ = some (.int .i64 e.line) := (hB.cell (p := ⟨g, k * 3 + 0, none⟩) hg2).trans ((hcell (k * 3 + 0) (by omega)).trans (flat_at enF_len es k 0 e _ he rfl))
              have e1 : wr.cell? ⟨g, k * 3 + 1, none⟩ = some (.int .i64 e.code) := (hB.cell (p := ⟨g, k * 3 + 1, none⟩) hg2).trans ((hcell (k * 3 + 1) (by omega)).trans (flat_at enF_len es k 1 e _ he rfl))
              have e2 : wr.cell? ⟨g, k * 3 + 2, none⟩ = some (.int .i64 e.times) := (hB.cell (p := ⟨g, k * 3 + 2, none⟩) hg2).trans ((hcell (k * 3 + 2) (by omega)).trans (flat_at enF_len es k 2 e _ he rfl))
              have ef := fun j => (hB.frozen (p := ⟨g, j, none⟩) hg2).trans (hfr j)
              have HE_e := hide he
              have hsr := hB.size
              have hlg : g < wr.heap.size := by omega
              have i0 : (0 : Int) ≤ (k : Int) := by omega
              have i1 : (k : Int) < (n : Int) := by omega
              clear he hcell hfr
              cases h1q : (e.line == line)
              · go_wp2_with fail
                go_roundw
                case rel => exact ⟨k + 1, by omega, by go_num, hide (key_next HT.out HE_e.out (by unfold keyIs; rw [h1q]; rfl)), (by repeat' (first | (with_reducible exact Below.refl _ _) | (with_reducible assumption) | (with_reducible refine bdrawn ?_ _) | (with_reducible refine Below.alloc ?_ ?_ _) | (with_reducible refine Below.drew ?_) | (with_reducible refine Below.setCell ?_ ?_ _) | go_size))⟩
                case measure => simp [intOf]; omega
              · cases h2q : (e.code == 1)
                · go_wp2_with fail
                  go_roundw
                  case rel => exact ⟨k + 1, by omega, by go_num, hide (key_next HT.out HE_e.out (by unfold keyIs; rw [h1q, h2q]; rfl)), (by repeat' (first | (with_reducible exact Below.refl _ _) | (with_reducible assumption) | (with_reducible refine bdrawn ?_ _) | (with_reducible refine Below.alloc ?_ ?_ _) | (with_reducible refine Below.drew ?_) | (with_reducible refine Below.setCell ?_ ?_ _) | go_size))⟩
                  case measure => simp [intOf]; omega
                · have hkey := hide (addL_hit HV.out (errAt_hit HT.out HE_e.out (by unfold keyIs; rw [h1q, h2q]; rfl)) HE_e.out)
                  have bd := HT6.out k e HE_e.out
                  have bd1 := bd.1; have bd2 := bd.2
                  clear bd
                  obtain rfl : n = N := by rw [← HN.out, hkey.out, List.length_set, HL.out]
                  have hst := hide ((own_below x.out.1 hB (fun j hj => (x.out.1.lt j hj).2)).stored (k * 3 + 2) (.int .i64 (min (e.times + 1) 999))).1
                  have hBE := bthen hBp (bthen H1 hB (by omega)) (by omega)
                  have hBs := hBE.size
                  by_cases hmin : e.times + 1 ≤ 999
                  · go_wp2_with fail
                    go_returns
                    rw [HV.out, hkey.out]
                    have hs2 := hst.out
                    rw [flat_set enF_len es k 2 e (bumped e) (.int .i64 (min (e.times + 1) 999)) HE_e.out rfl (by omega), Int.min_eq_left hmin] at hs2
                    exact ⟨_, _, rfl, hs2.alloc _, (by repeat' (first | (with_reducible exact Below.refl _ _) | (with_reducible assumption) | (with_reducible refine bdrawn ?_ _) | (with_reducible refine Below.alloc ?_ ?_ _) | (with_reducible refine Below.drew ?_) | (with_reducible refine Below.setCell ?_ ?_ _) | go_size))⟩
                  · go_wp2_with fail
                    go_returns
                    rw [HV.out, hkey.out]
                    have hs2 := hst.out
                    rw [flat_set enF_len es k 2 e (bumped e) (.int .i64 (min (e.times + 1) 999)) HE_e.out rfl (by omega), Int.min_eq_right (by omega)] at hs2
                    exact ⟨_, _, rfl, hs2.alloc _, (by repeat' (first | (with_reducible exact Below.refl _ _) | (with_reducible assumption) | (with_reducible refine bdrawn ?_ _) | (with_reducible refine Below.alloc ?_ ?_ _) | (with_reducible refine Below.drew ?_) | (with_reducible refine Below.setCell ?_ ?_ _) | go_size))⟩
            · have HE1 := hide (errAt_none (by have := HT.out; rwa [List.take_of_length_le (by rw [HL.out]; omega)] at this))
              by_cases hn : n = 6
              · subst hn
                have HE2 := hide (addL_full HV.out HE1.out HL.out)
                obtain rfl : 6 = N := by rw [← HN.out, HE2.out]; simp [HL.out]
                obtain ⟨g, rfl, hg0, hg1, hg2, hcell, hfr⟩ := x.out.some (by omega)
                clear hcell hfr
                have hB1 := bthen hBp (bthen H1 hB (by omega)) (by omega)
                have hsr := hB.size
                have HS := hide ((HX.out.below hB (Nat.le_refl _)).drop enF_len (k := 1) (by omega))
                go_wp2_with fail
                refine (impl_copyErrors _ _ _ (es.drop 1) _ HS.out (by omega)).mono ?_
                rintro e y1 ⟨ay, cy, rfl, howny, hBy⟩
                have hBy2 := bthen hB1 hBy (by omega)
                have hsy := hBy.size
                have HO := hide (own_base howny (show w.heap.size ≤ wr.heap.size by omega))
                go_wp2_with (at_builtin; refine wpList_append_own _ rfl _ _ 25 rfl w.heap.size 58 i0_En (.agg #[.int .i64 0, .int .i64 0, .int .i64 0]) 3 24 Tryd.underlying25 hi_En hz0_En hz1_En hz2_En rfl (by decide) _ _ _ rfl (HO.out.alloc _) ⟨y1.heap.size, 0, none⟩ 1 1 [.int .i64 line, .int .i64 1, .int .i64 1] rfl rfl ?c1q ?c2q ?c3q ?c4q ?c5q ?_)
                (try case c1q => exact news_at_of _ _ _ (by go_size))
                (try case c2q => first | exact List.all_eq_true.1 rfl | rfl)
                (try case c3q => (unfold maxLen; omega))
                (try case c4q => omega)
                (try case c5q => (first | go_size | (simp; omega)))
                intro v' wq hownq hgq _
                obtain ⟨aq, cq, rfl⟩ := own_shape hownq
                obtain ⟨hBq, hsq⟩ := below_app hBy2 HO.out (by omega) (by omega) hgq
                have HGq := hide hgq; clear hgq
                go_wp2_with fail
                go_returns
                rw [HV.out, HE2.out]
                exact ⟨_, _, rfl, by rw [List.flatMap_append]; simpa [newEn, enF] using hownq, hBq⟩
              · have HE2 := hide (addL_new HV.out HE1.out (by rw [HL.out]; omega))
                obtain rfl : n + 1 = N := by rw [← HN.out, HE2.out]; simp [HL.out]
                have hn6' : ((n : Int) == 6) = false := by simp; omega
                have hB1 := bthen hBp (bthen H1 hB (by omega)) (by omega)
                have hsr := hB.size
                have HO := hide (own_below x.out.1 hB (fun j hj => (x.out.1.lt j hj).2))
                go_wp2_with (at_builtin; refine wpList_append_own _ rfl _ _ 25 rfl w.heap.size 58 i0_En (.agg #[.int .i64 0, .int .i64 0, .int .i64 0]) 3 24 Tryd.underlying25 hi_En hz0_En hz1_En hz2_En rfl (by decide) _ _ _ rfl (HO.out.alloc _) ⟨wr.heap.size, 0, none⟩ 1 1 [.int .i64 line, .int .i64 1, .int .i64 1] rfl rfl ?c1q ?c2q ?c3q ?c4q ?c5q ?_)
                (try case c1q => exact news_at_of _ _ _ (by go_size))
                (try case c2q => first | exact List.all_eq_true.1 rfl | rfl)
                (try case c3q => (unfold maxLen; omega))
                (try case c4q => omega)
                (try case c5q => (first | go_size | (simp; omega)))
                intro v' wq hownq hgq _
                obtain ⟨aq, cq, rfl⟩ := own_shape hownq
                obtain ⟨hBq, hsq⟩ := below_app hB1 HO.out (by omega) (by omega) hgq
                have HGq := hide hgq; clear hgq
                go_wp2_with fail
                go_returns
                rw [HV.out, HE2.out]
                exact ⟨_, _, rfl, by rw [List.flatMap_append]; simpa [newEn, enF] using hownq, hBq⟩
        · skip
          go_wp2_with fail
          refine (impl_ErrorsOk_is _ _ _ es true hok _ (HA.out.below hBp (Nat.le_refl _)) hs).mono ?_
          rintro e w1 ⟨rfl, h1⟩
          have s1 := h1.size
          try simp only [World.size_alloc, World.size_setCell, World.size_drew, World.heap_drewN] at s1
          have H1 : Below wp.heap.size wp w1 := bthen (by repeat' (first | (with_reducible exact Below.refl _ _) | (with_reducible assumption) | (with_reducible refine bdrawn ?_ _) | (with_reducible refine Below.alloc ?_ ?_ _) | (with_reducible refine Below.drew ?_) | (with_reducible refine Below.setCell ?_ ?_ _) | go_size)) h1 (by go_size)
          have C1 := (bcell H1).1; have F1 := (bcell H1).2
          have P1 : Below wp.heap.size wp w1 := bthen (by repeat' (first | (with_reducible exact Below.refl _ _) | (with_reducible assumption) | (with_reducible refine bdrawn ?_ _) | (with_reducible refine Below.alloc ?_ ?_ _) | (with_reducible refine Below.drew ?_) | (with_reducible refine Below.setCell ?_ ?_ _) | go_size)) h1 (by go_size)
          replace x := hide (x.out.below P1 (by omega))
          go_wp2_with (first | (go_at_call 40; refine (impl_between _ _ _ _).mono ?_; rintro e w1 ⟨rfl, rfl⟩))
          obtain ⟨x1, rfl⟩ : ∃ W : World, W = w1 := ⟨_, rfl⟩
          have HX := hide (isStructs_own enF_len (by omega) x.out.1)
          go_loopw [32] (fun i wr => ∃ k : Nat, k ≤ n ∧ i = .int .i64 k ∧ Hid (((es.take k).all fun e => !keyIs line 2 e) = true) ∧ Below x1.heap.size x1 wr) (fun i _ => n - (intOf i).toNat)
          case atStart => exact ⟨0, by omega, rfl, hide rfl, Below.refl _ _⟩
          case round =>
            obtain ⟨k, hk, rfl, HT, hB⟩ := hrel
            by_cases hlt : k < n
            · obtain ⟨e, he⟩ : ∃ e, es[k]? = some e := ⟨_, List.getElem?_eq_getElem (by rw [HL.out]; omega)⟩
              obtain ⟨g, rfl, hg0, hg1, hg2, hcell, hfr⟩ := x.out.some (by omega)
              have e0 : wr.cell? ⟨g, k * 3, none⟩ = some (.int .i64 e.line) := (hB.cell (p := ⟨g, k * 3 + 0, none⟩) hg2).trans ((hcell (k * 3 + 0) (by omega)).trans (flat_at enF_len es k 0 e _ he rfl))
              have e1 : wr.cell? ⟨g, k * 3 + 1, none⟩ = some (.int .i64 e.code) := (hB.cell (p := ⟨g, k * 3 + 1, none⟩) hg2).trans ((hcell (k * 3 + 1) (by omega)).trans (flat_at enF_len es k 1 e _ he rfl))
              have e2 : wr.cell? ⟨g, k * 3 + 2, none⟩ = some (.int .i64 e.times) := (hB.cell (p := ⟨g, k * 3 + 2, none⟩) hg2).trans ((hcell (k * 3 + 2) (by omega)).trans (flat_at enF_len es k 2 e _ he rfl))
              have ef := fun j => (hB.frozen (p := ⟨g, j, none⟩) hg2).trans (hfr j)
              have HE_e := hide he
              have hsr := hB.size
              have hlg : g < wr.heap.size := by omega
              have i0 : (0 : Int) ≤ (k : Int) := by omega
              have i1 : (k : Int) < (n : Int) := by omega
              clear he hcell hfr
              cases h1q : (e.line == line)
              · go_wp2_with fail
                go_roundw
                case rel => exact ⟨k + 1, by omega, by go_num, hide (key_next HT.out HE_e.out (by unfold keyIs; rw [h1q]; rfl)), (by repeat' (first | (with_reducible exact Below.refl _ _) | (with_reducible assumption) | (with_reducible refine bdrawn ?_ _) | (with_reducible refine Below.alloc ?_ ?_ _) | (with_reducible refine Below.drew ?_) | (with_reducible refine Below.setCell ?_ ?_ _) | go_size))⟩
                case measure => simp [intOf]; omega
              · cases h2q : (e.code == 2)
                · go_wp2_with fail
                  go_roundw
                  case rel => exact ⟨k + 1, by omega, by go_num, hide (key_next HT.out HE_e.out (by unfold keyIs; rw [h1q, h2q]; rfl)), (by repeat' (first | (with_reducible exact Below.refl _ _) | (with_reducible assumption) | (with_reducible refine bdrawn ?_ _) | (with_reducible refine Below.alloc ?_ ?_ _) | (with_reducible refine Below.drew ?_) | (with_reducible refine Below.setCell ?_ ?_ _) | go_size))⟩
                  case measure => simp [intOf]; omega
                · have hkey := hide (addL_hit HV.out (errAt_hit HT.out HE_e.out (by unfold keyIs; rw [h1q, h2q]; rfl)) HE_e.out)
                  have bd := HT6.out k e HE_e.out
                  have bd1 := bd.1; have bd2 := bd.2
                  clear bd
                  obtain rfl : n = N := by rw [← HN.out, hkey.out, List.length_set, HL.out]
                  have hst := hide ((own_below x.out.1 hB (fun j hj => (x.out.1.lt j hj).2)).stored (k * 3 + 2) (.int .i64 (min (e.times + 1) 999))).1
                  have hBE := bthen hBp (bthen H1 hB (by omega)) (by omega)
                  have hBs := hBE.size
                  by_cases hmin : e.times + 1 ≤ 999
                  · go_wp2_with fail
                    go_returns
                    rw [HV.out, hkey.out]
                    have hs2 := hst.out
                    rw [flat_set enF_len es k 2 e (bumped e) (.int .i64 (min (e.times + 1) 999)) HE_e.out rfl (by omega), Int.min_eq_left hmin] at hs2
                    exact ⟨_, _, rfl, hs2.alloc _, (by repeat' (first | (with_reducible exact Below.refl _ _) | (with_reducible assumption) | (with_reducible refine bdrawn ?_ _) | (with_reducible refine Below.alloc ?_ ?_ _) | (with_reducible refine Below.drew ?_) | (with_reducible refine Below.setCell ?_ ?_ _) | go_size))⟩
                  · go_wp2_with fail
                    go_returns
                    rw [HV.out, hkey.out]
                    have hs2 := hst.out
                    rw [flat_set enF_len es k 2 e (bumped e) (.int .i64 (min (e.times + 1) 999)) HE_e.out rfl (by omega), Int.min_eq_right (by omega)] at hs2
                    exact ⟨_, _, rfl, hs2.alloc _, (by repeat' (first | (with_reducible exact Below.refl _ _) | (with_reducible assumption) | (with_reducible refine bdrawn ?_ _) | (with_reducible refine Below.alloc ?_ ?_ _) | (with_reducible refine Below.drew ?_) | (with_reducible refine Below.setCell ?_ ?_ _) | go_size))⟩
            · have HE1 := hide (errAt_none (by have := HT.out; rwa [List.take_of_length_le (by rw [HL.out]; omega)] at this))
              by_cases hn : n = 6
              · subst hn
                have HE2 := hide (addL_full HV.out HE1.out HL.out)
                obtain rfl : 6 = N := by rw [← HN.out, HE2.out]; simp [HL.out]
                obtain ⟨g, rfl, hg0, hg1, hg2, hcell, hfr⟩ := x.out.some (by omega)
                clear hcell hfr
                have hB1 := bthen hBp (bthen H1 hB (by omega)) (by omega)
                have hsr := hB.size
                have HS := hide ((HX.out.below hB (Nat.le_refl _)).drop enF_len (k := 1) (by omega))
                go_wp2_with fail
                refine (impl_copyErrors _ _ _ (es.drop 1) _ HS.out (by omega)).mono ?_
                rintro e y1 ⟨ay, cy, rfl, howny, hBy⟩
                have hBy2 := bthen hB1 hBy (by omega)
                have hsy := hBy.size
                have HO := hide (own_base howny (show w.heap.size ≤ wr.heap.size by omega))
                go_wp2_with (at_builtin; refine wpList_append_own _ rfl _ _ 25 rfl w.heap.size 58 i0_En (.agg #[.int .i64 0, .int .i64 0, .int .i64 0]) 3 24 Tryd.underlying25 hi_En hz0_En hz1_En hz2_En rfl (by decide) _ _ _ rfl (HO.out.alloc _) ⟨y1.heap.size, 0, none⟩ 1 1 [.int .i64 line, .int .i64 2, .int .i64 1] rfl rfl ?c1q ?c2q ?c3q ?c4q ?c5q ?_)
                (try case c1q => exact news_at_of _ _ _ (by go_size))
                (try case c2q => first | exact List.all_eq_true.1 rfl | rfl)
                (try case c3q => (unfold maxLen; omega))
                (try case c4q => omega)
                (try case c5q => (first | go_size | (simp; omega)))
                intro v' wq hownq hgq _
                obtain ⟨aq, cq, rfl⟩ := own_shape hownq
                obtain ⟨hBq, hsq⟩ := below_app hBy2 HO.out (by omega) (by omega) hgq
                have HGq := hide hgq; clear hgq
                go_wp2_with fail
                go_returns
                rw [HV.out, HE2.out]
                exact ⟨_, _, rfl, by rw [List.flatMap_append]; simpa [newEn, enF] using hownq, hBq⟩
              · have HE2 := hide (addL_new HV.out HE1.out (by rw [HL.out]; omega))
                obtain rfl : n + 1 = N := by rw [← HN.out, HE2.out]; simp [HL.out]
                have hn6' : ((n : Int) == 6) = false := by simp; omega
                have hB1 := bthen hBp (bthen H1 hB (by omega)) (by omega)
                have hsr := hB.size
                have HO := hide (own_below x.out.1 hB (fun j hj => (x.out.1.lt j hj).2))
                go_wp2_with (at_builtin; refine wpList_append_own _ rfl _ _ 25 rfl w.heap.size 58 i0_En (.agg #[.int .i64 0, .int .i64 0, .int .i64 0]) 3 24 Tryd.underlying25 hi_En hz0_En hz1_En hz2_En rfl (by decide) _ _ _ rfl (HO.out.alloc _) ⟨wr.heap.size, 0, none⟩ 1 1 [.int .i64 line, .int .i64 2, .int .i64 1] rfl rfl ?c1q ?c2q ?c3q ?c4q ?c5q ?_)
                (try case c1q => exact news_at_of _ _ _ (by go_size))
                (try case c2q => first | exact List.all_eq_true.1 rfl | rfl)
                (try case c3q => (unfold maxLen; omega))
                (try case c4q => omega)
                (try case c5q => (first | go_size | (simp; omega)))
                intro v' wq hownq hgq _
                obtain ⟨aq, cq, rfl⟩ := own_shape hownq
                obtain ⟨hBq, hsq⟩ := below_app hB1 HO.out (by omega) (by omega) hgq
                have HGq := hide hgq; clear hgq
                go_wp2_with fail
                go_returns
                rw [HV.out, HE2.out]
                exact ⟨_, _, rfl, by rw [List.flatMap_append]; simpa [newEn, enF] using hownq, hBq⟩
      · obtain ⟨hc1, hc2⟩ : ¬ code = 1 ∧ ¬ code = 2 := by omega
        have hc1' : (code != 1) = true := by simpa using hc1
        have hc2' : (code != 2) = true := by simpa using hc2
        have HV := hide (show addOk es line code = false by unfold addOk entryOk newEn; simp [hc1, hc2])
        obtain rfl : n = N := by rw [← HN.out, addL_no HV.out, HL.out]
        go_wp2_with fail
        refine (impl_ErrorsOk_is _ _ _ es true hok _ (HA.out.below hBp (Nat.le_refl _)) hs).mono ?_
        rintro e w1 ⟨rfl, h1⟩
        have s1 := h1.size
        try simp only [World.size_alloc, World.size_setCell, World.size_drew, World.heap_drewN] at s1
        have H1 : Below wp.heap.size wp w1 := bthen (by repeat' (first | (with_reducible exact Below.refl _ _) | (with_reducible assumption) | (with_reducible refine bdrawn ?_ _) | (with_reducible refine Below.alloc ?_ ?_ _) | (with_reducible refine Below.drew ?_) | (with_reducible refine Below.setCell ?_ ?_ _) | go_size)) h1 (by go_size)
        have C1 := (bcell H1).1; have F1 := (bcell H1).2
        have P1 : Below wp.heap.size wp w1 := bthen (by repeat' (first | (with_reducible exact Below.refl _ _) | (with_reducible assumption) | (with_reducible refine bdrawn ?_ _) | (with_reducible refine Below.alloc ?_ ?_ _) | (with_reducible refine Below.drew ?_) | (with_reducible refine Below.setCell ?_ ?_ _) | go_size)) h1 (by go_size)
        replace x := hide (x.out.below P1 (by omega))
        go_wp2_with (first | (go_at_call 40; refine (impl_between _ _ _ _).mono ?_; rintro e w1 ⟨rfl, rfl⟩))
        go_returns
        rw [HV.out, addL_no HV.out]
        exact ⟨_, _, rfl, x.out.1, bthen hBp H1 (by omega)⟩

theorem errAt_nat {es : List En} {line code : Int} (h : 0 ≤ errAt es line code) : ∃ (m : Nat) (f : En), errAt es line code = (m : Int) ∧ es[m]? = some f := by
  cases hq : (es.all fun e => !keyIs line code e)
  · rw [List.all_eq_false] at hq
    have key : ∀ (k : Nat), k ≤ es.length → ((es.take k).all fun e => !keyIs line code e) = true ∨ ∃ (m : Nat) (f : En), m < k ∧ errAt es line code = (m : Int) ∧ es[m]? = some f := by
      intro k
      induction k with
      | zero => intro _; exact .inl (by simp)
      | succ k ih =>
        intro hk
        rcases ih (by omega) with h1 | ⟨m, f, h1, h2, h3⟩
        · have hf : es[k]? = some (es[k]'(by omega)) := List.getElem?_eq_getElem (by omega)
          cases hkk : keyIs line code (es[k]'(by omega))
          · exact .inl (allp_next h1 hf hkk)
          · exact .inr ⟨k, _, by omega, errAt_hit h1 hf hkk, hf⟩
        · exact .inr ⟨m, f, by omega, h2, h3⟩
    rcases key es.length (Nat.le_refl _) with h1 | ⟨m, f, _, h2, h3⟩
    · rw [List.take_length, List.all_eq_true] at h1
      obtain ⟨x, hx, hx'⟩ := hq
      exact absurd (h1 x hx) hx'
    · exact ⟨m, f, h2, h3⟩
  · rw [errAt_none hq] at h; omega
theorem errAt_neg {es : List En} {line code : Int} (h : ¬ 0 ≤ errAt es line code) : errAt es line code = -1 := by
  cases hq : (es.all fun e => !keyIs line code e)
  · exfalso
    rw [List.all_eq_false] at hq
    obtain ⟨x, hx, hx'⟩ := hq
    obtain ⟨k, hk, rfl⟩ := List.getElem_of_mem hx
    have key : ∀ (k : Nat), k ≤ es.length → ((es.take k).all fun e => !keyIs line code e) = true ∨ 0 ≤ errAt es line code := by
      intro k
      induction k with
      | zero => intro _; exact .inl (by simp)
      | succ k ih =>
        intro hk
        rcases ih (by omega) with h1 | h1
        · have hf : es[k]? = some (es[k]'(by omega)) := List.getElem?_eq_getElem (by omega)
          cases hkk : keyIs line code (es[k]'(by omega))
          · exact .inl (allp_next h1 hf hkk)
          · exact .inr (by rw [errAt_hit h1 hf hkk]; omega)
        · exact .inr h1
    rcases key es.length (Nat.le_refl _) with h1 | h1
    · rw [List.take_length, List.all_eq_true] at h1
      exact absurd (h1 _ (List.getElem_mem hk)) hx'
    · exact h h1
  · exact errAt_none hq

end Go.Proofs.YtheifhjnbpbkhaaDoor
