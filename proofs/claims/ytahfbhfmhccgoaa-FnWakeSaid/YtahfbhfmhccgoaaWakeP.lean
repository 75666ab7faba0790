/- The three traces of FnWake. -/
import Derived.Test.YtahfbhfmhccgoaaTrc6
import Derived.Test.YtahfbhfmhccgoaaTrc1
set_option linter.unusedSimpArgs false
set_option linter.unusedVariables false
namespace Go.Proofs.Ytahfbhfmhccgoaa
open Go.RowKit Go.ChangeShapes Go.WideShapes Go.ChangeAt Go.Joins Go.Deep
open Go.ChangeMaps (open_string shut_string)
def wkX (en : Int) : Int := if en = 6 then 4 else 16
def wkL (p now : Int) : Int := max now (p + 3)
def wk2 (en p now : Int) : List Ev := [⟨p, en, 0, 0, 0⟩, ⟨wkL p now, en + 1, 0, 0, 0⟩]
def wk3 (en p now z b : Int) : List Ev := [⟨p, en, 0, 0, 0⟩, ⟨wkL p now, en + 1, 0, 0, 0⟩, ⟨z, 5, b, 0, 0⟩]
theorem fast_ok : tmOk fast = true := by decide
section
variable {g : Ge} {nb : Nat} {en p now z b : Int}
theorem wk_fine0 (he : en = 6 ∨ en = 8) (hp : 0 ≤ p ∧ p ≤ 10000) (evs : List Ev) : Fine g nb evs 0 ⟨p, en, 0, 0, 0⟩ :=
  ⟨rfl, rfl, .inr ⟨by simp only; omega, rfl⟩, hp.1, by simp only; omega, by
    rw [show pwAt evs 0 = 0 from rfl]
    rcases he with rfl | rfl
    · exact .inr (.inl ⟨rfl, rfl⟩)
    · exact .inr (.inr (.inr (.inl ⟨rfl, rfl⟩))), by simp, fun f h => absurd h (by omega)⟩
theorem wk_fine1 (he : en = 6 ∨ en = 8) (hp : 0 ≤ p ∧ p ≤ 10000) (hn : p ≤ now ∧ now ≤ 20000) (r : List Ev) : Fine g nb (⟨p, en, 0, 0, 0⟩ :: r) 1 ⟨wkL p now, en + 1, 0, 0, 0⟩ :=
  ⟨rfl, rfl, .inr ⟨by simp only; omega, rfl⟩, by simp only [wkL]; omega, by simp only [wkL]; omega, by
    rw [show pwAt (⟨p, en, 0, 0, 0⟩ :: r) 1 = pwTo 0 en from rfl]
    rcases he with rfl | rfl
    · exact .inr (.inr (.inl ⟨rfl, rfl⟩))
    · exact .inr (.inr (.inr (.inr ⟨rfl, rfl⟩))), by
    intro f hf
    simp at hf
    subst hf
    rcases he with rfl | rfl
    · exact .inl ⟨rfl, rfl⟩
    · exact .inr (.inl ⟨rfl, rfl⟩), by
    intro f _ hf
    simp at hf
    subst hf
    simp only [wkL]; omega⟩
theorem wk_fine2 (he : en = 6 ∨ en = 8) (hp : 0 ≤ p ∧ p ≤ 10000) (hn : p ≤ now ∧ now ≤ 20000) (hz : wkL p now < z ∧ z ≤ 1000000) (hb : 0 ≤ b ∧ b < bankCnt g) (hnb : bankCnt g = (nb : Int)) : Fine g nb (wk3 en p now z b) 2 ⟨z, 5, b, 0, 0⟩ :=
  ⟨rfl, rfl, .inl ⟨rfl, hb.1, hb.2⟩, by have := hz.1; simp only [wkL] at this; simp only; omega, hz.2, by
    rw [show pwAt (wk3 en p now z b) 2 = pwTo (pwTo 0 en) (en + 1) from rfl]
    refine .inl ⟨rfl, ?_, b.toNat, by simp only; omega, by omega⟩
    rcases he with rfl | rfl <;> rfl, by
    intro f hf
    simp [wk3] at hf
    rcases hf with rfl | rfl
    · exact .inr (.inr ⟨by simp only; omega, rfl⟩)
    · exact .inr (.inr ⟨by simp only; omega, rfl⟩), by
    intro f _ hf
    simp [wk3] at hf
    subst hf
    exact hz.1⟩
theorem wk_early0 (e : Ev) (evs : List Ev) : (evs.take 0).any (early fast e) = false := by simp
theorem wk_early1 (he : en = 6 ∨ en = 8) (hn : p ≤ now) (r : List Ev) : ((⟨p, en, 0, 0, 0⟩ :: r : List Ev).take 1).any (early fast ⟨wkL p now, en + 1, 0, 0, 0⟩) = false := by
  have h : gapV fast en (en + 1) = 3 := by rcases he with rfl | rfl <;> rfl
  simp only [List.take_succ_cons, List.take_zero, List.any_cons, List.any_nil, Bool.or_false, early, h, wkL]
  rw [decide_eq_false_iff_not]; omega
theorem wk_early2 (he : en = 6 ∨ en = 8) (hn : p ≤ now) (hz : z = wkL p now + wkX en) : ((wk3 en p now z b).take 2).any (early fast ⟨z, 5, b, 0, 0⟩) = false := by
  have h1 : gapV fast en 5 = 0 := by rcases he with rfl | rfl <;> rfl
  have h2 : gapV fast (en + 1) 5 = wkX en := by rcases he with rfl | rfl <;> rfl
  have h3 : 4 ≤ wkX en := by rcases he with rfl | rfl <;> decide
  simp only [wk3, List.take_succ_cons, List.take_zero, List.any_cons, List.any_nil, Bool.or_false, early, h1, h2, Bool.or_eq_false_iff, decide_eq_false_iff_not]
  simp only [wkL] at hz ⊢
  omega
theorem wk_early2' (he : en = 6 ∨ en = 8) (hz : z = wkL p now + wkX en - 1) : ((wk3 en p now z b).take 2).any (early fast ⟨z, 5, b, 0, 0⟩) = true := by
  have h2 : gapV fast (en + 1) 5 = wkX en := by rcases he with rfl | rfl <;> rfl
  have h3 : 4 ≤ wkX en := by rcases he with rfl | rfl <;> decide
  simp only [wk3, List.take_succ_cons, List.take_zero, List.any_cons, List.any_nil, Bool.or_false, early, h2, Bool.or_eq_true, decide_eq_true_eq]
  omega
theorem get_wk3 {P : Nat → Ev → Prop} (h0 : P 0 ⟨p, en, 0, 0, 0⟩) (h1 : P 1 ⟨wkL p now, en + 1, 0, 0, 0⟩) (h2 : P 2 ⟨z, 5, b, 0, 0⟩) : ∀ k e, (wk3 en p now z b)[k]? = some e → P k e
  | 0, e, h => by simp [wk3] at h; subst h; exact h0
  | 1, e, h => by simp [wk3] at h; subst h; exact h1
  | 2, e, h => by simp [wk3] at h; subst h; exact h2
  | k + 3, e, h => by simp [wk3] at h
theorem get_wk2 {P : Nat → Ev → Prop} (h0 : P 0 ⟨p, en, 0, 0, 0⟩) (h1 : P 1 ⟨wkL p now, en + 1, 0, 0, 0⟩) : ∀ k e, (wk2 en p now)[k]? = some e → P k e
  | 0, e, h => by simp [wk2] at h; subst h; exact h0
  | 1, e, h => by simp [wk2] at h; subst h; exact h1
  | k + 2, e, h => by simp [wk2] at h
end
/-- The two events: in time. -/
theorem spec_TraceFault_2 (g : Ge) (en p now : Int) (a : Option Addr) (c nb : Nat) (w : World) (ha : IsStructs evF 5 w a 2 c (wk2 en p now)) (hg : geoOk g = true) (hnb : bankCnt g = (nb : Int))
    (he : en = 6 ∨ en = 8) (hp : 0 ≤ p ∧ p ≤ 10000) (hn : p ≤ now ∧ now ≤ 20000) :
    Calls Try.prog 62 #[.agg #[.int .i64 g.gr, .int .i64 g.bk, .int .i64 g.rw, .int .i64 g.cl], .agg (tmC fast).toArray, .slice a 2 c] w fun r w' => (∃ x : Int, r = .returned (.tuple #[.int .i64 0, .int .i64 x])) ∧ Below w.heap.size w w' :=
  spec_TraceFault g fast a 2 c nb 2 (wk2 en p now) 0 w ha hg hnb fast_ok (by omega) (get_wk2 (P := Fine g nb (wk2 en p now)) (wk_fine0 he hp _) (wk_fine1 he hp hn _))
    (fun k e hk h => get_wk2 (P := fun k e => ((wk2 en p now).take k).any (early fast e) = false) (wk_early0 _ _) (wk_early1 he hn.1 _) k e h) (.inl ⟨rfl, rfl⟩)
/-- With a refresh in time. -/
theorem spec_TraceFault_3 (g : Ge) (en p now z b : Int) (a : Option Addr) (c nb : Nat) (w : World) (ha : IsStructs evF 5 w a 3 c (wk3 en p now z b)) (hg : geoOk g = true) (hnb : bankCnt g = (nb : Int))
    (he : en = 6 ∨ en = 8) (hp : 0 ≤ p ∧ p ≤ 10000) (hn : p ≤ now ∧ now ≤ 20000) (hz : z = wkL p now + wkX en) (hb : 0 ≤ b ∧ b < bankCnt g) :
    Calls Try.prog 62 #[.agg #[.int .i64 g.gr, .int .i64 g.bk, .int .i64 g.rw, .int .i64 g.cl], .agg (tmC fast).toArray, .slice a 3 c] w fun r w' => (∃ x : Int, r = .returned (.tuple #[.int .i64 0, .int .i64 x])) ∧ Below w.heap.size w w' :=
  have h3 : 4 ≤ wkX en ∧ wkX en ≤ 16 := by rcases he with rfl | rfl <;> decide
  have hl : wkL p now ≤ 20003 := by simp only [wkL]; omega
  spec_TraceFault g fast a 3 c nb 3 (wk3 en p now z b) 0 w ha hg hnb fast_ok (by omega) (get_wk3 (P := Fine g nb (wk3 en p now z b)) (wk_fine0 he hp _) (wk_fine1 he hp hn _) (wk_fine2 he hp hn (by omega) hb hnb))
    (fun k e hk h => get_wk3 (P := fun k e => ((wk3 en p now z b).take k).any (early fast e) = false) (wk_early0 _ _) (wk_early1 he hn.1 _) (wk_early2 he hn.1 hz) k e h) (.inl ⟨rfl, rfl⟩)
/-- One cycle too early. -/
theorem spec_TraceFault_e (g : Ge) (en p now z b : Int) (a : Option Addr) (c nb : Nat) (w : World) (ha : IsStructs evF 5 w a 3 c (wk3 en p now z b)) (hg : geoOk g = true) (hnb : bankCnt g = (nb : Int))
    (he : en = 6 ∨ en = 8) (hp : 0 ≤ p ∧ p ≤ 10000) (hn : p ≤ now ∧ now ≤ 20000) (hz : z = wkL p now + wkX en - 1) (hb : 0 ≤ b ∧ b < bankCnt g) :
    Calls Try.prog 62 #[.agg #[.int .i64 g.gr, .int .i64 g.bk, .int .i64 g.rw, .int .i64 g.cl], .agg (tmC fast).toArray, .slice a 3 c] w fun r w' => (∃ x : Int, r = .returned (.tuple #[.int .i64 3, .int .i64 x])) ∧ Below w.heap.size w w' :=
  have h3 : 4 ≤ wkX en ∧ wkX en ≤ 16 := by rcases he with rfl | rfl <;> decide
  have hl : wkL p now ≤ 20003 := by simp only [wkL]; omega
  spec_TraceFault g fast a 3 c nb 2 (wk3 en p now z b) 3 w ha hg hnb fast_ok (by omega) (get_wk3 (P := Fine g nb (wk3 en p now z b)) (wk_fine0 he hp _) (wk_fine1 he hp hn _) (wk_fine2 he hp hn (by omega) hb hnb))
    (fun k e hk h => get_wk3 (P := fun k e => k < 2 → ((wk3 en p now z b).take k).any (early fast e) = false) (fun _ => wk_early0 _ _) (fun _ => wk_early1 he hn.1 _) (fun h => absurd h (by omega)) k e h hk)
    (.inr ⟨by omega, rfl, fun e h => by simp [wk3] at h; subst h; exact wk_early2' he hz⟩)
end Go.Proofs.Ytahfbhfmhccgoaa
