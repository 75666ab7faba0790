/- ErrorsOk of the program and of the reference. -/
import Derived.Test.YtheifhjnbpbkhaaDoorErrors
import Derived.Deep.RegionWith
set_option linter.unusedSimpArgs false
set_option linter.unusedVariables false
namespace Go.Proofs.YtheifhjnbpbkhaaDoor
open Go.RowKit Go.ChangeShapes Go.WideShapes Go.ChangeAt Go.Joins Go.Deep
open Go.ChangeMaps (open_string shut_string)

theorem spec_l26Entry_is (e : En) (b : Bool) (h : entryOk e = b) (w : World) :
    Calls Tryd.prog 56 #[.agg #[.int .i64 e.line, .int .i64 e.code, .int .i64 e.times]] w fun r w' => r = .returned (.bool b) ∧ Below w.heap.size w w' := by subst h; exact spec_l26Entry e w
theorem spec_l26At_is (a : Option Addr) (n c : Nat) (es : List En) (line code v : Int) (h : errAt es line code = v) (w : World) (ha : IsStructs enF 3 w a n c es) (hs : n ≤ 1048576) :
    Calls Tryd.prog 57 #[.slice a n c, .int .i64 line, .int .i64 code] w fun r w' => r = .returned (.int .i64 v) ∧ Below w.heap.size w w' := by subst h; exact spec_l26At a n c es line code w ha hs

set_option maxHeartbeats 1000000 in
theorem spec_ErrorsOk (a : Option Addr) (n c : Nat) (es : List En) (w : World) (ha : IsStructs enF 3 w a n c es) (hs : n ≤ 1048576) :
    Calls Tryd.prog 35 #[.slice a n c] w fun r w' => r = .returned (.bool (errorsOkB es)) ∧ Below w.heap.size w w' := by
  have HA := hide ha
  have hc := ha.2.1
  clear ha
  by_cases h6 : n ≤ 6
  · go_enter Tryd.func35, Tryd.ntmps35
    go_wp2
    go_loopw [3] (fun i wr => ∃ k : Nat, k ≤ n ∧ i = .int .i64 k ∧ Hid (errTo es k = true) ∧ Below w.heap.size w wr) (fun i _ => n - (intOf i).toNat)
    case atStart => exact ⟨0, by omega, rfl, hide rfl, Below.refl _ _⟩
    case round =>
      obtain ⟨k, hk, rfl, HT, hB⟩ := hrel
      by_cases hlt : k < n
      · obtain ⟨e, b1, o1, he, rfl, hlb, hcell⟩ := HA.out.get enF_len (by omega) hlt
        have e0 : wr.cell? ⟨b1, o1 + k * 3, none⟩ = some (.int .i64 e.line) := (hB.cell (p := ⟨b1, o1 + (k * 3 + 0), none⟩) hlb).trans (hcell 0 _ rfl)
        have e1 : wr.cell? ⟨b1, o1 + k * 3 + 1, none⟩ = some (.int .i64 e.code) := (hB.cell (p := ⟨b1, o1 + (k * 3 + 1), none⟩) hlb).trans (hcell 1 _ rfl)
        have e2 : wr.cell? ⟨b1, o1 + k * 3 + 2, none⟩ = some (.int .i64 e.times) := (hB.cell (p := ⟨b1, o1 + (k * 3 + 2), none⟩) hlb).trans (hcell 2 _ rfl)
        have HE := hide he
        have h1 : (0 : Int) ≤ (k : Int) := by omega
        have h2 : (k : Int) < (n : Int) := by omega
        have hs1 := hB.size
        have hl1 : b1 < wr.heap.size := by omega
        have HB := hide hB
        clear hcell he
        cases hq1 : entryOk e
        · go_wp2_with fail
          refine wp_region_any (by kernel_rfl) ?_
          try (change wpAny _ _ _ _ _ _ _ (World.drew _))
          refine wpAny_take (i := 0) (v := ?_) rfl (by kernel_rfl) (by kernel_rfl) (by kernel_rfl) (fun _ _ _ h => h) (Or.inl ⟨by rfl, ?_⟩) ?_
          rotate_left
          · intro w; go_simp; try with_reducible rfl
          try simp only [Act.put, List.getElem_toArray, List.getElem_cons_zero, List.getElem_cons_succ, List.setIfInBounds_toArray, List.set_cons_zero, List.set_cons_succ]
          refine wpAny_take (i := 1) (v := ?_) rfl (by kernel_rfl) (by kernel_rfl) (by kernel_rfl) (fun _ _ _ h => h) (Or.inl ⟨by rfl, ?_⟩) ?_
          rotate_left
          · intro w; go_simp; try with_reducible rfl
          try simp only [Act.put, List.getElem_toArray, List.getElem_cons_zero, List.getElem_cons_succ, List.setIfInBounds_toArray, List.set_cons_zero, List.set_cons_succ]
          refine wpAny_take (i := 2) (v := ?_) rfl (by kernel_rfl) (by kernel_rfl) (by kernel_rfl) (fun _ _ _ h => h) (Or.inl ⟨by rfl, ?_⟩) ?_
          rotate_left
          · intro w; go_simp; try with_reducible rfl
          try simp only [Act.put, List.getElem_toArray, List.getElem_cons_zero, List.getElem_cons_succ, List.setIfInBounds_toArray, List.set_cons_zero, List.set_cons_succ]
          refine wpAny_ready (rs := [3]) (by kernel_rfl) (by simp) ?_
          refine AllReady.cons rfl (fun K hK => ?_) AllReady.nil
          go_simp
          refine hK _ _ ?_
          clear hK K
          refine wpAny_ready (rs := [4]) (by kernel_rfl) (by simp) ?_
          refine AllReady.cons rfl (fun K hK => ?_) AllReady.nil
          go_simp
          go_wp2_with ((go_at_call 56; refine (spec_l26Entry_is e false hq1 _).mono ?_; rintro e w1 ⟨rfl, h1⟩; replace h1 : Below wr.heap.size wr w1 := bthen (by go_grown) h1 (by first | go_size | omega); obtain ⟨hc1, hf1⟩ := bcell h1; have hB2 : Below w.heap.size w w1 := bthen HB.out h1 (by omega)))
          refine wpAny_take (i := 5) (v := ?_) rfl (by kernel_rfl) (by kernel_rfl) (by kernel_rfl) (fun _ _ _ h => h) (Or.inl ⟨by rfl, ?_⟩) ?_
          rotate_left
          · intro w; go_simp; try with_reducible rfl
          try simp only [Act.put, List.getElem_toArray, List.getElem_cons_zero, List.getElem_cons_succ, List.setIfInBounds_toArray, List.set_cons_zero, List.set_cons_succ]
          refine wpAny_take (i := 6) (v := ?_) rfl (by kernel_rfl) (by kernel_rfl) (by kernel_rfl) (fun _ _ _ h => h) (Or.inl ⟨by rfl, ?_⟩) ?_
          rotate_left
          · intro w; go_simp; try with_reducible rfl
          try simp only [Act.put, List.getElem_toArray, List.getElem_cons_zero, List.getElem_cons_succ, List.setIfInBounds_toArray, List.set_cons_zero, List.set_cons_succ]
          refine wpAny_take (i := 7) (v := undef) rfl (by kernel_rfl) (by kernel_rfl) (by kernel_rfl) (fun _ _ _ h => h) (Or.inr ⟨by rfl, rfl⟩) ?_
          try simp only [Act.put, List.getElem_toArray, List.getElem_cons_zero, List.getElem_cons_succ, List.setIfInBounds_toArray, List.set_cons_zero, List.set_cons_succ]
          refine wpAny_take (i := 8) (v := undef) rfl (by kernel_rfl) (by kernel_rfl) (by kernel_rfl) (fun _ _ _ h => h) (Or.inr ⟨by rfl, rfl⟩) ?_
          try simp only [Act.put, List.getElem_toArray, List.getElem_cons_zero, List.getElem_cons_succ, List.setIfInBounds_toArray, List.set_cons_zero, List.set_cons_succ]
          refine wpAny_take (i := 9) (v := undef) rfl (by kernel_rfl) (by kernel_rfl) (by kernel_rfl) (fun _ _ _ h => h) (Or.inr ⟨by rfl, rfl⟩) ?_
          try simp only [Act.put, List.getElem_toArray, List.getElem_cons_zero, List.getElem_cons_succ, List.setIfInBounds_toArray, List.set_cons_zero, List.set_cons_succ]
          refine wpAny_take (i := 10) (v := undef) rfl (by kernel_rfl) (by kernel_rfl) (by kernel_rfl) (fun _ _ _ h => h) (Or.inr ⟨by rfl, rfl⟩) ?_
          try simp only [Act.put, List.getElem_toArray, List.getElem_cons_zero, List.getElem_cons_succ, List.setIfInBounds_toArray, List.set_cons_zero, List.set_cons_succ]
          refine wpAny_take (i := 11) (v := undef) rfl (by kernel_rfl) (by kernel_rfl) (by kernel_rfl) (fun _ _ _ h => h) (Or.inr ⟨by rfl, rfl⟩) ?_
          try simp only [Act.put, List.getElem_toArray, List.getElem_cons_zero, List.getElem_cons_succ, List.setIfInBounds_toArray, List.set_cons_zero, List.set_cons_succ]
          refine wpAny_take (i := 12) (v := undef) rfl (by kernel_rfl) (by kernel_rfl) (by kernel_rfl) (fun _ _ _ h => h) (Or.inr ⟨by rfl, rfl⟩) ?_
          try simp only [Act.put, List.getElem_toArray, List.getElem_cons_zero, List.getElem_cons_succ, List.setIfInBounds_toArray, List.set_cons_zero, List.set_cons_succ]
          refine wpAny_take (i := 13) (v := undef) rfl (by kernel_rfl) (by kernel_rfl) (by kernel_rfl) (fun _ _ _ h => h) (Or.inr ⟨by rfl, rfl⟩) ?_
          try simp only [Act.put, List.getElem_toArray, List.getElem_cons_zero, List.getElem_cons_succ, List.setIfInBounds_toArray, List.set_cons_zero, List.set_cons_succ]
          refine wpAny_take (i := 14) (v := undef) rfl (by kernel_rfl) (by kernel_rfl) (by kernel_rfl) (fun _ _ _ h => h) (Or.inr ⟨by rfl, rfl⟩) ?_
          try simp only [Act.put, List.getElem_toArray, List.getElem_cons_zero, List.getElem_cons_succ, List.setIfInBounds_toArray, List.set_cons_zero, List.set_cons_succ]
          refine wpAny_take (i := 15) (v := undef) rfl (by kernel_rfl) (by kernel_rfl) (by kernel_rfl) (fun _ _ _ h => h) (Or.inr ⟨by rfl, rfl⟩) ?_
          try simp only [Act.put, List.getElem_toArray, List.getElem_cons_zero, List.getElem_cons_succ, List.setIfInBounds_toArray, List.set_cons_zero, List.set_cons_succ]
          refine wpAny_take (i := 16) (v := undef) rfl (by kernel_rfl) (by kernel_rfl) (by kernel_rfl) (fun _ _ _ h => h) (Or.inr ⟨by rfl, rfl⟩) ?_
          try simp only [Act.put, List.getElem_toArray, List.getElem_cons_zero, List.getElem_cons_succ, List.setIfInBounds_toArray, List.set_cons_zero, List.set_cons_succ]
          refine wpAny_take (i := 17) (v := undef) rfl (by kernel_rfl) (by kernel_rfl) (by kernel_rfl) (fun _ _ _ h => h) (Or.inr ⟨by rfl, rfl⟩) ?_
          try simp only [Act.put, List.getElem_toArray, List.getElem_cons_zero, List.getElem_cons_succ, List.setIfInBounds_toArray, List.set_cons_zero, List.set_cons_succ]
          refine wpAny_take (i := 18) (v := undef) rfl (by kernel_rfl) (by kernel_rfl) (by kernel_rfl) (fun _ _ _ h => h) (Or.inr ⟨by rfl, rfl⟩) ?_
          try simp only [Act.put, List.getElem_toArray, List.getElem_cons_zero, List.getElem_cons_succ, List.setIfInBounds_toArray, List.set_cons_zero, List.set_cons_succ]
          refine wpAny_take (i := 19) (v := undef) rfl (by kernel_rfl) (by kernel_rfl) (by kernel_rfl) (fun _ _ _ h => h) (Or.inr ⟨by rfl, rfl⟩) ?_
          try simp only [Act.put, List.getElem_toArray, List.getElem_cons_zero, List.getElem_cons_succ, List.setIfInBounds_toArray, List.set_cons_zero, List.set_cons_succ]
          refine wpAny_take (i := 20) (v := undef) rfl (by kernel_rfl) (by kernel_rfl) (by kernel_rfl) (fun _ _ _ h => h) (Or.inr ⟨by rfl, rfl⟩) ?_
          try simp only [Act.put, List.getElem_toArray, List.getElem_cons_zero, List.getElem_cons_succ, List.setIfInBounds_toArray, List.set_cons_zero, List.set_cons_succ]
          refine wpAny_take (i := 21) (v := ?_) rfl (by kernel_rfl) (by kernel_rfl) (by kernel_rfl) (fun _ _ _ h => h) (Or.inl ⟨by rfl, ?_⟩) ?_
          rotate_left
          · intro w; go_simp; try with_reducible rfl
          try simp only [Act.put, List.getElem_toArray, List.getElem_cons_zero, List.getElem_cons_succ, List.setIfInBounds_toArray, List.set_cons_zero, List.set_cons_succ]
          refine wpAny_done (by kernel_rfl) ?_ _
          go_wp2
          go_ret
          exact ⟨ret_bool (by rw [errTo_no HE.out (.inl hq1)]), by first | assumption | exact bdrawn (by assumption) _⟩
        · cases hq2 : ((es.take k).all fun f => !keyIs e.line e.code f)
          · have HN := hide (errTo_no HE.out (.inr hq2))
            obtain ⟨v, hv⟩ : ∃ v, errAt es e.line e.code = v := ⟨_, rfl⟩
            have hne := errAt_ne hq2
            rw [hv] at hne
            have HV := hide hv
            clear hv
            clear hq2
            go_wp2_with fail
            go_region_held3 (fun v => v.cell? ⟨b1, o1 + k * 3, none⟩ = some (.int .i64 e.line) ∧ v.cell? ⟨b1, o1 + k * 3 + 1, none⟩ = some (.int .i64 e.code) ∧ v.cell? ⟨b1, o1 + k * 3 + 2, none⟩ = some (.int .i64 e.times)) (go_keep)
              (first | (go_at_call 56; refine (spec_l26Entry_is e true hq1 _).mono ?_; rintro e w1 ⟨rfl, h1⟩; replace h1 : Below wr.heap.size wr w1 := bthen (by go_grown) h1 (by first | go_size | omega); obtain ⟨hc1, hf1⟩ := bcell h1; have hs2 : wr.heap.size ≤ w1.heap.size := h1.size; have hl2 : b1 < w1.heap.size := (by omega); have hB2 : Below w.heap.size w w1 := bthen HB.out h1 (by omega); have HA2 := hide (HA.out.below hB2 (Nat.le_refl _))) | (go_at_call 57; refine (spec_l26At_is _ _ _ es _ _ _ HV.out _ HA2.out hs).mono ?_; rintro e w1 ⟨rfl, h1⟩; replace h1 : Below wr.heap.size wr w1 := bthen (by go_grown) h1 (by first | go_size | omega); obtain ⟨hc1, hf1⟩ := bcell h1; have hB3 : Below w.heap.size w w1 := bthen HB.out h1 (by omega)))
            go_wp2_with fail
            go_ret
            exact ⟨ret_bool (by rw [HN.out]), by first | assumption | exact bdrawn (by assumption) _⟩
          · have HN := hide (errTo_next HT.out HE.out hq1 hq2)
            have HV := hide (errAt_hit hq2 HE.out (keyIs_self e))
            clear hq2
            go_wp2_with fail
            go_region_held3 (fun v => v.cell? ⟨b1, o1 + k * 3, none⟩ = some (.int .i64 e.line) ∧ v.cell? ⟨b1, o1 + k * 3 + 1, none⟩ = some (.int .i64 e.code) ∧ v.cell? ⟨b1, o1 + k * 3 + 2, none⟩ = some (.int .i64 e.times)) (go_keep)
              (first | (go_at_call 56; refine (spec_l26Entry_is e true hq1 _).mono ?_; rintro e w1 ⟨rfl, h1⟩; replace h1 : Below wr.heap.size wr w1 := bthen (by go_grown) h1 (by first | go_size | omega); obtain ⟨hc1, hf1⟩ := bcell h1; have hs2 : wr.heap.size ≤ w1.heap.size := h1.size; have hl2 : b1 < w1.heap.size := (by omega); have hB2 : Below w.heap.size w w1 := bthen HB.out h1 (by omega); have HA2 := hide (HA.out.below hB2 (Nat.le_refl _))) | (go_at_call 57; refine (spec_l26At_is _ _ _ es _ _ _ HV.out _ HA2.out hs).mono ?_; rintro e w1 ⟨rfl, h1⟩; replace h1 : Below wr.heap.size wr w1 := bthen (by go_grown) h1 (by first | go_size | omega); obtain ⟨hc1, hf1⟩ := bcell h1; have hB3 : Below w.heap.size w w1 := bthen HB.out h1 (by omega)))
            go_wp2_with fail
            go_roundw
            case rel => exact ⟨k + 1, by omega, by go_num, HN, by first | assumption | exact bdrawn (by assumption) _⟩
            case measure => simp [intOf]; omega
      · go_wp2
        go_ret
        exact ⟨ret_bool (by unfold errorsOkB; rw [HA.out.1, decide_eq_true h6, show n = k by omega, HT.out]; rfl), hB⟩
  · go_enter Tryd.func35, Tryd.ntmps35
    go_wp2
    go_ret
    exact ⟨ret_bool (by unfold errorsOkB; rw [HA.out.1, decide_eq_false h6]; rfl), Below.refl _ _⟩
end Go.Proofs.YtheifhjnbpbkhaaDoor
