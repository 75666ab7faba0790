/- The correction of a word: the walks of the program and of the reference. -/
import Derived.Test.YtkhcepmileiejaaCodeW
set_option linter.unusedSimpArgs false
set_option linter.unusedVariables false
namespace Go.Proofs.Ytkhcepmileiejaa
open Go.RowKit Go.ChangeShapes Go.WideShapes Go.ChangeAt Go.Joins Go.Deep
open Go.ChangeMaps (open_string shut_string)
/-- What the correction hands back: a word of the call's own, its code, the place. -/
def GotW (w : World) (ws : List Nat) (e : Ending) (w' : World) : Prop :=
  ∃ a c, e = .returned (.tuple #[.slice a 11 c, .int .i64 (corrW ws).2.1, .int .i64 (corrW ws).2.2]) ∧ w'.ownsRow w.heap.size 3 1 (.slice a 11 c) 11 ((ints (corrW ws).1).map (.int .i64)) ∧ Below w.heap.size w w'
theorem impl_GfInv_is (a : Nat) (v : Nat) (w : World) (hv : ginv a = v) (ha : a < 16) :
    Calls Try.prog 100 #[.int .i64 a] w fun e w' => e = .returned (.int .i64 (v : Nat)) ∧ w = w' := by rw [← hv]; exact impl_GfInv a w ha
theorem impl_GfLog_is (a : Nat) (v : Nat) (w : World) (hv : glog a = v) :
    Calls Try.prog 106 #[.int .i64 a] w fun e w' => e = .returned (.int .i64 (v : Nat)) ∧ w = w' := by rw [← hv]; exact impl_GfLog a w
theorem zero3_true {ws : List Nat} (h : zero3 ws = true) : syn ws 0 = 0 ∧ syn ws 1 = 0 ∧ syn ws 2 = 0 := by
  simp only [zero3, Bool.and_eq_true, beq_iff_eq] at h; exact h
theorem zero3_false {ws : List Nat} (h : zero3 ws = false) : ¬ (syn ws 0 = 0 ∧ syn ws 1 = 0 ∧ syn ws 2 = 0) := by
  intro hh
  have : zero3 ws = true := by simp only [zero3, Bool.and_eq_true, beq_iff_eq]; exact hh
  rw [h] at this; cases this
theorem log_bd {a b : Nat} (ha : a < 16) (hb : b < 16) (h0 : a ≠ 0) (h1 : b ≠ 0) : ∃ v l : Nat, ginv a = v ∧ v < 16 ∧ glog (gm b v) = l ∧ l < 15 := by
  have := of_upto (of_upto log_all ha) hb
  simp only [Bool.or_eq_true, beq_iff_eq, Bool.and_eq_true, decide_eq_true_eq] at this
  rcases this with (h | h) | h
  · exact absurd h h0
  · exact absurd h h1
  · obtain ⟨⟨h2, h3⟩, h4, h5⟩ := h
    obtain ⟨v, hv⟩ := Int.eq_ofNat_of_zero_le (show 0 ≤ ginv a by omega)
    rw [hv, Int.toNat_natCast] at h4 h5
    obtain ⟨l, hl⟩ := Int.eq_ofNat_of_zero_le h4
    exact ⟨v, l, hv, by omega, hl, by omega⟩
theorem corrW_of {ws : List Nat} (hS : Sym ws) (h0 : zero3 ws = false) : corrS (syn ws 0) (syn ws 1) (syn ws 2) = corrI (syn ws 0) (syn ws 1) (syn ws 2) :=
  (corr_is (syn_lt hS 0) (syn_lt hS 1) (syn_lt hS 2) (zero3_false h0)).symm
theorem corrI_no {a b c : Nat} (h : a = 0 ∨ b = 0) : corrI a b c = -1 := by
  unfold corrI; rw [if_neg (by omega)]
theorem corrI_at {a b c v l : Nat} (h : a ≠ 0 ∧ b ≠ 0) (hv : ginv a = v) (hl : glog (gm b v) = l) : corrI a b c = if l < 11 ∧ gm b (gm b v) = c then (l : Int) else -1 := by
  unfold corrI
  rw [if_pos h, hv, Int.toNat_natCast, hl]
  by_cases hc : l < 11 ∧ gm b (gm b v) = c
  · rw [if_pos (by exact ⟨by omega, hc.2⟩), if_pos hc]
  · rw [if_neg (fun hh => hc ⟨by omega, hh.2⟩), if_neg hc]
theorem ints_turn {ws : List Nat} {l y : Nat} (h : l < ws.length) : ((ints ws).map (Value.int .i64)).set l (.int .i64 ((ws.getD l 0 ^^^ y : Nat) : Int)) = (ints (turn ws l y)).map (.int .i64) := by
  unfold turn ints
  rw [List.map_map, List.map_map, List.map_set]
  rfl
set_option maxRecDepth 100000 in
set_option maxHeartbeats 2000000 in
theorem impl_CorrectWord (a : Option Addr) (c : Nat) (ws : List Nat) (w : World) (hS : Sym ws) (hl : ws.length = 11) (ha : IsInts .i64 w a 11 c (ints ws)) :
    Calls Try.prog 84 #[.slice a 11 c] w (GotW w ws) := by
  obtain ⟨i0_int, hi_int, hz0_int, hz1_int, hz2_int⟩ := info_parts info_int
  have HA := hide ha; have HS := hide hS; have HL := hide hl
  have hc := ha.2.1; have hm : c ≤ 9223372036854775807 := ha.2.2.1
  have hs0 := syn_lt hS 0; have hs1 := syn_lt hS 1; have hs2 := syn_lt hS 2
  clear ha hS hl
  go_enter Try.func84, Try.ntmps84
  go_wp2_with fail
  refine (impl_Syndromes _ _ ws _ HS.out HL.out HA.out).mono ?_
  rintro e w1 ⟨a1, c1, rfl, o1, h1⟩
  obtain ⟨g, rfl, hg, h3, hc1, hc2⟩ := is3_of o1
  have H3 := hide h3
  have hne := fun w => Lib.run_eql_slice_nil (P := Try.prog) w 25 3 (some ⟨g, 0, none⟩) 3 c1 0 0 Try.underlying25
  have hs := h1.size
  have hB0 : Below w1.heap.size w1 (w1.alloc (.cells #[] 3)) := Below.alloc (Below.refl _ _) (Nat.le_refl _) _
  have HA0 := hide (HA.out.below (bthen h1 hB0 hs) (Nat.le_refl _)).2.2.2.2
  have HO0 := hide (World.ownsRow_made (base := w1.heap.size) (e := 3) (size := 1) w1 #[] 0 (Nat.le_refl _) (by decide) rfl)
  clear o1 h3
  go_wp2_with (at_builtin; refine wpList_append_any rfl _ _ 25 rfl w1.heap.size 3 i0_int (.int .i64 0) 1 8 Try.underlying25 hi_int hz0_int hz1_int hz2_int rfl (by decide) _ _ _ rfl (HO0.out) _ _ _ _ rfl (by rw [List.length_map, ints_len, HL.out]) HA0.out (map_ones _) ?c3p ?c4p ?c5p ?_)
  case c3p => unfold maxLen; omega
  case c4p => omega
  case c5p => (first | go_size | (simp; omega))
  intro v' wp hownp hgp
  obtain ⟨ap, cp, rfl⟩ := own_shape hownp
  have hBp := below_grown hB0 (HO0.out) (by omega) (by go_size) hgp
  have hsp := hgp.size
  (try simp only [World.size_alloc] at hsp)
  have HGp := hide hgp; clear hgp
  (try simp only [List.nil_append, Nat.zero_add] at hownp)
  have HW1 := hide (bthen h1 hBp hs)
  have HP := hide (own_base hownp hs)
  have hsp := hBp.size
  have HAp := hide (HA.out.below HW1.out (Nat.le_refl _))
  have H3p := hide (H3.out.below hBp)
  clear hownp HO0 HA0 hB0 HGp H3
  cases hz : zero3 ws
  · go_wp2_with fail
    refine (impl_WordOk _ _ ws false _ hz HS.out HL.out HAp.out).mono ?_
    rintro e w2 ⟨rfl, h2⟩
    have hs2' := h2.size
    obtain ⟨hgl, e0, e1, e2⟩ := H3p.out.below h2
    have HW2 := hide (bthen HW1.out h2 (by omega))
    have HX := hide (own_below HP.out h2 (fun k hk => (HP.out.lt k hk).2))
    have hcorr := hide (corrW_of HS.out hz)
    have HZ := hide (zero3_false hz)
    clear HP hz
    by_cases n0 : syn ws 0 = 0
    · have p0 : ((syn ws 0 : Nat) : Int) = 0 := by omega
      have hC := hide (corrW_lost HZ.out (by rw [hcorr.out, corrI_no (.inl n0)]; omega))
      clear n0
      go_wp2_with fail
      go_returns
      exact ⟨_, _, by first | (rw [hC.out]; done) | (rw [hC.out]; rfl), by rw [hC.out]; exact HX.out, HW2.out⟩
    · have p0 : (((syn ws 0 : Nat) : Int) != 0) = true := by simp; omega
      by_cases n1 : syn ws 1 = 0
      · have p1 : ((syn ws 1 : Nat) : Int) = 0 := by omega
        have hC := hide (corrW_lost HZ.out (by rw [hcorr.out, corrI_no (.inr n1)]; omega))
        clear n0 n1
        go_wp2_with fail
        go_returns
        exact ⟨_, _, by first | (rw [hC.out]; done) | (rw [hC.out]; rfl), by rw [hC.out]; exact HX.out, HW2.out⟩
      · have p1 : (((syn ws 1 : Nat) : Int) != 0) = true := by simp; omega
        obtain ⟨v, l, hv, hv16, hl, hl15⟩ := log_bd hs0 hs1 n0 n1
        have hat := hide (corrI_at (c := syn ws 2) ⟨n0, n1⟩ hv hl)
        have HV := hide hv; have HLg := hide hl
        have hx16 := gm_lt hs1 hv16
        obtain ⟨x, hx⟩ : ∃ x, gm (syn ws 1) v = x := ⟨_, rfl⟩
        have HXX := hide hx
        rw [hx] at HLg hat hx16
        obtain ⟨y, hy⟩ : ∃ y, gm (syn ws 1) x = y := ⟨_, rfl⟩
        have HY := hide hy
        rw [hy] at hat
        have y16 : y < 16 := by rw [← hy]; exact gm_lt hs1 hx16
        clear n0 n1 hv hl hx hy
        go_wp2_with fail
        go_region_held3 (fun v => v.cell? ⟨g, 0, none⟩ = some (.int .i64 (syn ws 0 : Nat)) ∧ v.cell? ⟨g, 1, none⟩ = some (.int .i64 (syn ws 1 : Nat))) (go_keep)
          (first | (go_at_call 100; refine (impl_GfInv_is _ v _ HV.out hs0).mono ?_; rintro e w3 ⟨rfl, rfl⟩) | (go_at_call 101; refine (impl_GfMul_is _ v x _ HXX.out hs1 hv16).mono ?_; rintro e w3 ⟨rfl, rfl⟩))
        go_wp2_with (first | (go_at_call 106; refine (impl_GfLog_is x l _ HLg.out).mono ?_; rintro e w3 ⟨rfl, rfl⟩))
        by_cases hl11 : l < 11
        · have l1 : (l : Int) < 11 := by omega
          by_cases hy2 : y = syn ws 2
          · have q2 : ((y : Nat) : Int) = ((syn ws 2 : Nat) : Int) := by rw [hy2]
            have hC := hide (corrW_fixed HZ.out (k := l) (by rw [hcorr.out, hat.out, if_pos ⟨hl11, hy2⟩]))
            clear hy2
            go_region_held3 (fun v => v.cell? ⟨g, 0, none⟩ = some (.int .i64 (syn ws 0 : Nat)) ∧ v.cell? ⟨g, 1, none⟩ = some (.int .i64 (syn ws 1 : Nat)) ∧ v.cell? ⟨g, 2, none⟩ = some (.int .i64 (syn ws 2 : Nat))) (go_keep)
              (first | (go_at_call 101; refine (impl_GfMul_is _ x y _ HY.out hs1 hx16).mono ?_; rintro e w3 ⟨rfl, rfl⟩))
            obtain ⟨gp, hgp, hgp1, hgp2, hcell⟩ := own_some HX.out (by omega)
            subst hgp
            have o0 : w2.cell? ⟨gp, l, none⟩ = some (.int .i64 (ws.getD l 0 : Nat)) := (hcell l (by omega)).trans (by rw [List.getElem?_map, ints_get (by rw [HL.out]; exact hl11)]; rfl)
            have o2 := HX.out.frozenAt l
            have l0 : (0 : Int) ≤ (l : Int) := by omega
            have HXR := hide (i64_xor (ws.getD l 0) (syn ws 0) (by have := HS.out.at l; omega) (by omega))
            clear hcell
            have hst := (HX.out.stored l (.int .i64 (bits .xor .i64 (ws.getD l 0 : Nat) (syn ws 0 : Nat)))).1
            have hst' := hst
            rw [HXR.out, ints_turn (by rw [HL.out]; exact hl11)] at hst'
            have HST := hide (show (w2.setCell ⟨gp, l, none⟩ (.int .i64 (bits .xor .i64 (ws.getD l 0 : Nat) (syn ws 0 : Nat)))).ownsRow w.heap.size 3 1 (.slice (some ⟨gp, 0, none⟩) 11 cp) 11 ((ints (turn ws l (syn ws 0))).map (.int .i64)) by rw [HXR.out]; exact hst')
            clear hst hst'
            go_wp2_with fail
            go_region_law (fail)
            all_goals
              go_wp2_with fail
              go_returns
              exact ⟨_, _, by first | (rw [hC.out]; done) | (rw [hC.out]; rfl), by rw [hC.out]; exact HST.out.drew.drew.drew, by have := HW2.out; go_grown⟩
          · have q2 : ¬ ((y : Nat) : Int) = ((syn ws 2 : Nat) : Int) := by omega
            have hC := hide (corrW_lost HZ.out (by rw [hcorr.out, hat.out, if_neg (fun h => hy2 h.2)]; omega))
            clear hy2
            go_region_held3 (fun v => v.cell? ⟨g, 0, none⟩ = some (.int .i64 (syn ws 0 : Nat)) ∧ v.cell? ⟨g, 1, none⟩ = some (.int .i64 (syn ws 1 : Nat)) ∧ v.cell? ⟨g, 2, none⟩ = some (.int .i64 (syn ws 2 : Nat))) (go_keep)
              (first | (go_at_call 101; refine (impl_GfMul_is _ x y _ HY.out hs1 hx16).mono ?_; rintro e w3 ⟨rfl, rfl⟩))
            go_wp2_with fail
            go_returns
            exact ⟨_, _, by first | (rw [hC.out]; done) | (rw [hC.out]; rfl), by rw [hC.out]; exact HX.out.drew.drew, by have := HW2.out; go_grown⟩
        · have l1 : ¬ (l : Int) < 11 := by omega
          have hC := hide (corrW_lost HZ.out (by rw [hcorr.out, hat.out, if_neg (fun h => hl11 h.1)]; omega))
          refine wp_region_any (by kernel_rfl) ?_
          try (change wpAny _ _ _ _ _ _ _ (World.drew _))
          refine wpAny_take (i := 0) (v := ?_) rfl (by kernel_rfl) (by kernel_rfl) (by kernel_rfl) (fun _ _ _ h => h) (Or.inl ⟨by rfl, ?_⟩) ?_
          rotate_left
          · intro w; go_simp; try with_reducible rfl
          try simp only [Act.put, List.getElem_toArray, List.getElem_cons_zero, List.getElem_cons_succ, List.setIfInBounds_toArray, List.set_cons_zero, List.set_cons_succ]
          refine wpAny_take (i := 1) (v := ?_) rfl (by kernel_rfl) (by kernel_rfl) (by kernel_rfl) (fun _ _ _ h => h) (Or.inl ⟨by rfl, ?_⟩) ?_
          rotate_left
          · intro w; go_simp; try with_reducible rfl
          try simp only [Act.put, List.getElem_toArray, List.getElem_cons_zero, List.getElem_cons_succ, List.setIfInBounds_toArray, List.set_cons_zero, List.set_cons_succ]
          refine wpAny_take (i := 2) (v := ?_) rfl (by kernel_rfl) (by kernel_rfl) (by kernel_rfl) (fun _ _ _ h => h) (Or.inl ⟨by rfl, ?_⟩) ?_
          rotate_left
          · intro w; go_simp; try with_reducible rfl
          try simp only [Act.put, List.getElem_toArray, List.getElem_cons_zero, List.getElem_cons_succ, List.setIfInBounds_toArray, List.set_cons_zero, List.set_cons_succ]
          refine wpAny_take (i := 3) (v := undef) rfl (by kernel_rfl) (by kernel_rfl) (by kernel_rfl) (fun _ _ _ h => h) (Or.inr ⟨by rfl, rfl⟩) ?_
          try simp only [Act.put, List.getElem_toArray, List.getElem_cons_zero, List.getElem_cons_succ, List.setIfInBounds_toArray, List.set_cons_zero, List.set_cons_succ]
          refine wpAny_take (i := 4) (v := undef) rfl (by kernel_rfl) (by kernel_rfl) (by kernel_rfl) (fun _ _ _ h => h) (Or.inr ⟨by rfl, rfl⟩) ?_
          try simp only [Act.put, List.getElem_toArray, List.getElem_cons_zero, List.getElem_cons_succ, List.setIfInBounds_toArray, List.set_cons_zero, List.set_cons_succ]
          refine wpAny_take (i := 5) (v := undef) rfl (by kernel_rfl) (by kernel_rfl) (by kernel_rfl) (fun _ _ _ h => h) (Or.inr ⟨by rfl, rfl⟩) ?_
          try simp only [Act.put, List.getElem_toArray, List.getElem_cons_zero, List.getElem_cons_succ, List.setIfInBounds_toArray, List.set_cons_zero, List.set_cons_succ]
          refine wpAny_take (i := 6) (v := undef) rfl (by kernel_rfl) (by kernel_rfl) (by kernel_rfl) (fun _ _ _ h => h) (Or.inr ⟨by rfl, rfl⟩) ?_
          try simp only [Act.put, List.getElem_toArray, List.getElem_cons_zero, List.getElem_cons_succ, List.setIfInBounds_toArray, List.set_cons_zero, List.set_cons_succ]
          refine wpAny_take (i := 7) (v := undef) rfl (by kernel_rfl) (by kernel_rfl) (by kernel_rfl) (fun _ _ _ h => h) (Or.inr ⟨by rfl, rfl⟩) ?_
          try simp only [Act.put, List.getElem_toArray, List.getElem_cons_zero, List.getElem_cons_succ, List.setIfInBounds_toArray, List.set_cons_zero, List.set_cons_succ]
          refine wpAny_take (i := 8) (v := undef) rfl (by kernel_rfl) (by kernel_rfl) (by kernel_rfl) (fun _ _ _ h => h) (Or.inr ⟨by rfl, rfl⟩) ?_
          try simp only [Act.put, List.getElem_toArray, List.getElem_cons_zero, List.getElem_cons_succ, List.setIfInBounds_toArray, List.set_cons_zero, List.set_cons_succ]
          refine wpAny_take (i := 9) (v := undef) rfl (by kernel_rfl) (by kernel_rfl) (by kernel_rfl) (fun _ _ _ h => h) (Or.inr ⟨by rfl, rfl⟩) ?_
          try simp only [Act.put, List.getElem_toArray, List.getElem_cons_zero, List.getElem_cons_succ, List.setIfInBounds_toArray, List.set_cons_zero, List.set_cons_succ]
          refine wpAny_take (i := 10) (v := undef) rfl (by kernel_rfl) (by kernel_rfl) (by kernel_rfl) (fun _ _ _ h => h) (Or.inr ⟨by rfl, rfl⟩) ?_
          try simp only [Act.put, List.getElem_toArray, List.getElem_cons_zero, List.getElem_cons_succ, List.setIfInBounds_toArray, List.set_cons_zero, List.set_cons_succ]
          refine wpAny_take (i := 11) (v := undef) rfl (by kernel_rfl) (by kernel_rfl) (by kernel_rfl) (fun _ _ _ h => h) (Or.inr ⟨by rfl, rfl⟩) ?_
          try simp only [Act.put, List.getElem_toArray, List.getElem_cons_zero, List.getElem_cons_succ, List.setIfInBounds_toArray, List.set_cons_zero, List.set_cons_succ]
          refine wpAny_take (i := 12) (v := ?_) rfl (by kernel_rfl) (by kernel_rfl) (by kernel_rfl) (fun _ _ _ h => h) (Or.inl ⟨by rfl, ?_⟩) ?_
          rotate_left
          · intro w; go_simp; try with_reducible rfl
          try simp only [Act.put, List.getElem_toArray, List.getElem_cons_zero, List.getElem_cons_succ, List.setIfInBounds_toArray, List.set_cons_zero, List.set_cons_succ]
          refine wpAny_done (by kernel_rfl) ?_ _
          go_wp2_with fail
          go_returns
          exact ⟨_, _, by first | (rw [hC.out]; done) | (rw [hC.out]; rfl), by rw [hC.out]; exact HX.out.drew.drew, by have := HW2.out; go_grown⟩
  · go_wp2_with fail
    refine (impl_WordOk _ _ ws true _ hz HS.out HL.out HAp.out).mono ?_
    rintro e w2 ⟨rfl, h2⟩
    have hs2' := h2.size
    have HW2 := hide (bthen HW1.out h2 (by omega))
    have HX := hide (own_below HP.out h2 (fun k hk => (HP.out.lt k hk).2))
    have hC := hide (corrW_clean (zero3_true hz))
    go_wp2_with fail
    go_returns
    exact ⟨_, _, by first | (rw [hC.out]; done) | (rw [hC.out]; rfl), by rw [hC.out]; exact HX.out, HW2.out⟩
end Go.Proofs.Ytkhcepmileiejaa
