/- For every drain, count of reads and kind of request the program's DrainAllows returns what the reference's returns. No condition. -/
import Derived.Test.YtefohdhmfgglgaaDrain
set_option linter.unusedSimpArgs false
set_option linter.unusedVariables false
namespace Go.Proofs.Ytefohdhmfgglgaa
open Go.RowKit Go.ChangeShapes Go.WideShapes Go.ChangeAt Go.Joins Go.Deep
open Go.ChangeMaps (open_string shut_string)

set_option maxHeartbeats 400000 in
theorem FnExactDrainAllows_walk (on : Bool) (lo hi x : Int) (b : Bool) (w : World) :
    Calls Try.prog 6 #[.agg #[.bool on, .int .i64 lo, .int .i64 hi], .int .i64 x, .bool b] w fun e w' => e = .returned (.bool true) ∧ Below w.heap.size w w' := by
  go_enter Try.func6, Try.ntmps6
  go_wp2_with (first
    | (go_at_call 16; refine (laws_toDrain _ _ _ _).mono ?_; rintro e w1 ⟨rfl, h1⟩; (try (have hz0 : w.heap.size < w1.heap.size := (by have := h1.size; (try simp at this); omega); have hl0 := (fun o => (bcell h1).1 (w.heap.size) o (by go_size)); have hv0 := (fun o => (bcell h1).2 (w.heap.size) o (by go_size)))); (try (have hz1 : w.heap.size + 1 < w1.heap.size := (by have := h1.size; (try simp at this); omega); have hl1 := (fun o => (bcell h1).1 (w.heap.size + 1) o (by go_size)); have hv1 := (fun o => (bcell h1).2 (w.heap.size + 1) o (by go_size)))); (try (have hz2 : w.heap.size + 1 + 1 < w1.heap.size := (by have := h1.size; (try simp at this); omega); have hl2 := (fun o => (bcell h1).1 (w.heap.size + 1 + 1) o (by go_size)); have hv2 := (fun o => (bcell h1).2 (w.heap.size + 1 + 1) o (by go_size)))); replace h1 : Below w.heap.size w w1 := bthen (by go_grown) h1 (by go_size); obtain ⟨hc1, hf1⟩ := bcell h1)
    | (go_at_call 24; refine (spec_DrainAllows _ _ _ _ _ _).mono ?_; rintro e w1 ⟨rfl, h1⟩; (try (have hz0 : w.heap.size < w1.heap.size := (by have := h1.size; (try simp at this); omega); have hl0 := (fun o => (bcell h1).1 (w.heap.size) o (by go_size)); have hv0 := (fun o => (bcell h1).2 (w.heap.size) o (by go_size)))); (try (have hz1 : w.heap.size + 1 < w1.heap.size := (by have := h1.size; (try simp at this); omega); have hl1 := (fun o => (bcell h1).1 (w.heap.size + 1) o (by go_size)); have hv1 := (fun o => (bcell h1).2 (w.heap.size + 1) o (by go_size)))); (try (have hz2 : w.heap.size + 1 + 1 < w1.heap.size := (by have := h1.size; (try simp at this); omega); have hl2 := (fun o => (bcell h1).1 (w.heap.size + 1 + 1) o (by go_size)); have hv2 := (fun o => (bcell h1).2 (w.heap.size + 1 + 1) o (by go_size)))); replace h1 : Below w.heap.size w w1 := bthen (by go_grown) h1 (by go_size); obtain ⟨hc1, hf1⟩ := bcell h1)
    | (go_at_call 25; refine (impl_DrainAllows _ _ _ _ _ _).mono ?_; rintro e w1 ⟨rfl, h1⟩; (try (have hz0 : w.heap.size < w1.heap.size := (by have := h1.size; (try simp at this); omega); have hl0 := (fun o => (bcell h1).1 (w.heap.size) o (by go_size)); have hv0 := (fun o => (bcell h1).2 (w.heap.size) o (by go_size)))); (try (have hz1 : w.heap.size + 1 < w1.heap.size := (by have := h1.size; (try simp at this); omega); have hl1 := (fun o => (bcell h1).1 (w.heap.size + 1) o (by go_size)); have hv1 := (fun o => (bcell h1).2 (w.heap.size + 1) o (by go_size)))); (try (have hz2 : w.heap.size + 1 + 1 < w1.heap.size := (by have := h1.size; (try simp at this); omega); have hl2 := (fun o => (bcell h1).1 (w.heap.size + 1 + 1) o (by go_size)); have hv2 := (fun o => (bcell h1).2 (w.heap.size + 1 + 1) o (by go_size)))); replace h1 : Below w.heap.size w w1 := bthen (by go_grown) h1 (by go_size); obtain ⟨hc1, hf1⟩ := bcell h1))
  go_ret
  exact ⟨rfl, by go_grown⟩

set_option maxRecDepth 100000 in
theorem FnExactDrainAllows_lifted (os : Os) (started : os.Started) (H : Type) (enc : TypeId × Value → H) :
    ReturnsInHanded {} Try.checked os 6 .any (Rows.fnExactDrainAllowsSpec.pre6 enc Try.prog Try.f6 Rows.fnExactDrainAllowsRow.domain false) (Rows.fnExactDrainAllowsSpec.post enc Try.prog Try.f6 false true false false) := by
  refine returnsInHanded_of_change (C := Try.checked) try_own started (by kernel_rfl) Try.func6
    (ChangeSpec.witness6 (enc := enc) (C := Try.checked) false ⟨#[], #[.agg #[.bool false, .int .i64 0, .int .i64 0], .int .i64 0, .bool false], []⟩ 8 (by kernel_rfl) (by kernel_rfl) (by kernel_rfl) (by kernel_rfl)) ?_
  intro W base args ds gs before hval0 hW _ _
  have hval : ∀ (j : Nat) t v, Try.f6.params[j]? = some t → args[j]? = some v → Value.okWide Try.prog W .any base t v := hval0
  have hW' := hW
  obtain ⟨p, q, hA0, hV, rfl, hfz, hnd⟩ := hW
  have hA : DataW.TrodAll enc Try.prog W 0 (fun _ => true) true Try.f6.params.toList args.toList ds p := hA0
  rw [Try.params6] at hA hval
  obtain ⟨v0, vs0, d0, ds0, p0, q0, hargs, rfl, rfl, h0, r0⟩ := trodAll_cons hA
  obtain ⟨v1, vs1, d1, ds1, p1, q1, rfl, rfl, rfl, h1, r1⟩ := trodAll_cons r0
  obtain ⟨v2, vs2, d2, ds2, p2, q2, rfl, rfl, rfl, h2, r2⟩ := trodAll_cons r1
  obtain ⟨rfl, rfl, rfl⟩ := trodAll_nil r2
  obtain rfl : args = #[v0, v1, v2] := by cases args; simp_all
  obtain ⟨rfl, rfl⟩ := trodVars_none hV
  have k0 := h0
  have lt0 : ∀ x ∈ p0, x.block < W.heap.size := by obtain ⟨m, hm⟩ := k0; exact DataW.trod_lt m _ _ _ hm
  have k1 := h1
  have lt1 : ∀ x ∈ p1, x.block < W.heap.size := by obtain ⟨m, hm⟩ := k1; exact DataW.trod_lt m _ _ _ hm
  have k2 := h2
  have lt2 : ∀ x ∈ p2, x.block < W.heap.size := by obtain ⟨m, hm⟩ := k2; exact DataW.trod_lt m _ _ _ hm
  obtain ⟨v0_0, v0_1, v0_2, y0_0, y0_1, y0_2, m0, rfl, rfl, _, hy0_0, hy0_1, hy0_2⟩ := open_agg3 Try.underlying23 (by kernel_rfl) (by kernel_rfl) (hval 0 23 v0 rfl rfl) h0
  obtain ⟨x0_0, e_x0_0, rfl⟩ := DataW.trod_bool Try.underlying4 hy0_0
  obtain ⟨x0_1, e_x0_1, rfl, w_x0_1⟩ := DataW.trod_int Try.underlying3 hy0_1
  obtain ⟨x0_2, e_x0_2, rfl, w_x0_2⟩ := DataW.trod_int Try.underlying3 hy0_2
  obtain ⟨x1, rfl, rfl, rfl, w_x1⟩ := open_int Try.underlying3 (hval 1 3 v1 rfl rfl) h1
  obtain ⟨x2, rfl, rfl, rfl⟩ := open_bool Try.underlying4 (hval 2 4 v2 rfl rfl) h2
  simp only [List.cons.injEq, and_true] at e_x0_0; subst e_x0_0
  simp only [List.cons.injEq, and_true] at e_x0_1; subst e_x0_1
  simp only [List.cons.injEq, and_true] at e_x0_2; subst e_x0_2
  clear hA0 hval0
  refine (FnExactDrainAllows_walk x0_0 x0_1 x0_2 x1 x2 W ).mono fun e W' ⟨he, bel⟩ => ?_
  subst he
  exact ⟨_, rfl, _, _, _, [], _, [], hW', trodAll_mk1 (shut_bool Try.underlying4 _), (trodAll_cons_mk (Below.trod try_laidOut (by kernel_rfl) (of_decide_eq_true (by kernel_rfl)) k0 bel lt0) (trodAll_cons_mk (Below.trod try_laidOut (by kernel_rfl) (of_decide_eq_true (by kernel_rfl)) k1 bel lt1) (trodAll_cons_mk (Below.trod try_laidOut (by kernel_rfl) (of_decide_eq_true (by kernel_rfl)) k2 bel lt2) trodAll_mk0))), rfl, bel.frame _, fun h => by cases h⟩

theorem FnExactDrainAllows_holds : Rows.FnExactDrainAllowsSaid :=
  OpenClaim.holds_of_wide 6 Try.f6 rfl rfl rfl rfl rfl rfl rfl ⟨rfl, rfl, rfl, rfl, rfl⟩ rfl rfl rfl rfl rfl (by kernel_rfl) Try.func6 (by kernel_rfl)
    (of_decide_eq_true (by kernel_rfl)) (by unfold Func.isWrapper; rw [if_neg (of_decide_eq_false (by kernel_rfl))]; exact ⟨rfl, rfl⟩)
    (fun os started H enc _ => FnExactDrainAllows_lifted os started H enc)
#print axioms FnExactDrainAllows_holds
end Go.Proofs.Ytefohdhmfgglgaa
