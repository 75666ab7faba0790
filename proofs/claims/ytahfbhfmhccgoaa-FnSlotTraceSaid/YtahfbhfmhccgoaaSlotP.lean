/- What SlotTrace says, in plain Lean. -/
import Derived.Test.YtahfbhfmhccgoaaServe4
import Derived.Test.YtahfbhfmhccgoaaNeed
import Derived.Test.YtahfbhfmhccgoaaMapL
import Derived.Test.YtahfbhfmhccgoaaQueueA
import Derived.Test.YtahfbhfmhccgoaaTrc5
set_option linter.unusedSimpArgs false
set_option linter.unusedVariables false
namespace Go.Proofs.Ytahfbhfmhccgoaa
open Go.RowKit Go.ChangeShapes Go.WideShapes Go.ChangeAt Go.Joins Go.Deep
open Go.ChangeMaps (open_string shut_string)
def ev3 (t : Tm) (a : Ad) (wr : Bool) (b : Int) : List Ev := [⟨b, 1, a.b, a.r, 0⟩, ⟨b + t.rcd, if wr = true then 3 else 2, a.b, 0, a.c⟩, ⟨b + max t.ras (t.rcd + (if wr = true then t.wr else t.rtp)), 4, a.b, 0, 0⟩]
structure TrA where
  g : Ge
  t : Tm
  mo : Int
  mh : Bool
  zs : List Int
  l : Int
  u : Int
def evOf (A : TrA) (rs : List Rq) (p b : Int) : List Ev := match rs[p.toNat]? with
  | some r => ev3 A.t (mapL A.g A.mo A.mh r.line) r.write b
  | none => []
theorem evOf_at {A : TrA} {rs : List Rq} {m : Nat} {r : Rq} (h : rs[m]? = some r) (b : Int) : evOf A rs m b = ev3 A.t (mapL A.g A.mo A.mh r.line) r.write b := by unfold evOf; rw [Int.toNat_natCast, h]
def trS (A : TrA) (rs : List Rq) : Nat → List Ev
  | 0 => []
  | j + 1 => if pickS rs A.zs A.l j < 0 then trS A rs j else trS A rs j ++ evOf A rs (pickS rs A.zs A.l j) ((j : Int) * A.l)
section
variable {A : TrA} {rs : List Rq} {j : Nat}
theorem tr_no (h : pickS rs A.zs A.l j < 0) : trS A rs (j + 1) = trS A rs j := by simp only [trS]; rw [if_pos h]
theorem tr_yes {m : Nat} (h : pickS rs A.zs A.l j = m) : trS A rs (j + 1) = trS A rs j ++ evOf A rs m ((j : Int) * A.l) := by simp only [trS]; rw [if_neg (by omega), h]
end
theorem tr_zip (A : TrA) (rs : List Rq) : ∀ j, trS A rs j = (List.zipWith (evOf A rs) (whichS rs A.zs A.l j) (beginS rs A.zs A.l j)).flatten
  | 0 => rfl
  | j + 1 => by
    have ih := tr_zip A rs j
    by_cases h : pickS rs A.zs A.l j < 0
    · rw [tr_no h, which_no h, begin_no h, ih]
    · obtain ⟨m, hm⟩ := Int.eq_ofNat_of_zero_le (show 0 ≤ pickS rs A.zs A.l j by omega)
      rw [tr_yes hm, which_yes hm, begin_yes hm, List.zipWith_append (by rw [begin_len]), ih]
      simp
theorem tr_len (A : TrA) (rs : List Rq) : ∀ j, (trS A rs j).length = 3 * (whichS rs A.zs A.l j).length
  | 0 => rfl
  | j + 1 => by
    have ih := tr_len A rs j
    by_cases h : pickS rs A.zs A.l j < 0
    · rw [tr_no h, which_no h, ih]
    · obtain ⟨m, hm⟩ := Int.eq_ofNat_of_zero_le (show 0 ≤ pickS rs A.zs A.l j by omega)
      have hb := pickS_bd rs A.zs A.l j
      have hr : rs[m]? = some (rs[m]'(by omega)) := List.getElem?_eq_getElem _
      rw [tr_yes hm, which_yes hm, List.length_append, List.length_append, ih, evOf_at hr]
      simp [ev3]; omega
/-- What stands behind the first k served slots. -/
def trK (A : TrA) (rs : List Rq) (N k : Nat) : List Ev := ((List.zipWith (evOf A rs) (whichS rs A.zs A.l N) (beginS rs A.zs A.l N)).take k).flatten
theorem trK_next {A : TrA} {rs : List Rq} {N k m : Nat} {b : Int} {r : Rq} (hw : (whichS rs A.zs A.l N)[k]? = some (m : Int)) (hb : (beginS rs A.zs A.l N)[k]? = some b) (hr : rs[m]? = some r) : trK A rs N (k + 1) = trK A rs N k ++ ev3 A.t (mapL A.g A.mo A.mh r.line) r.write b := by
  have h : (List.zipWith (evOf A rs) (whichS rs A.zs A.l N) (beginS rs A.zs A.l N))[k]? = some (ev3 A.t (mapL A.g A.mo A.mh r.line) r.write b) := by
    rw [List.getElem?_zipWith, hw, hb]; simp [evOf_at hr]
  unfold trK; rw [take_snoc h, List.flatten_append]; simp
theorem trK_all {A : TrA} {rs : List Rq} {N k : Nat} (hk : (whichS rs A.zs A.l N).length = k) : trK A rs N k = trS A rs N := by
  unfold trK; rw [tr_zip, List.take_of_length_le (by rw [List.length_zipWith, begin_len, hk]; omega)]
def traceOk (A : TrA) (n : Nat) : Bool := geoOk A.g && (tmOk A.t && (btw A.mo 0 2 && (servable A.zs A.l A.u n && (decide (A.u ≤ 900000) && decide (slotNeed A.t ≤ A.l)))))
def goodTo (g : Ge) (mo : Int) (rs : List Rq) : Nat → Bool
  | 0 => true
  | k + 1 => goodTo g mo rs k && (match rs[k]? with | some r => mapOk g mo r.line && !((rs.take k).any fun q => q.id == r.id) | none => true)
theorem goodTo_next {g : Ge} {mo : Int} {rs : List Rq} {k : Nat} {r : Rq} (h : goodTo g mo rs k = true) (hr : rs[k]? = some r) (hm : mapOk g mo r.line = true) (hn : ((rs.take k).any fun q => q.id == r.id) = false) : goodTo g mo rs (k + 1) = true := by
  simp only [goodTo, h, hr, hm, hn]; rfl
theorem goodTo_end {g : Ge} {mo : Int} {rs : List Rq} : ∀ {n k : Nat}, k ≤ n → goodTo g mo rs k = false → goodTo g mo rs n = false
  | 0, k, hk, h => by obtain rfl : k = 0 := by omega
                      exact h
  | n + 1, k, hk, h => by
    by_cases e : k = n + 1
    · rw [← e]; exact h
    · simp only [goodTo]; rw [goodTo_end (show k ≤ n by omega) h]; rfl
theorem goodTo_map {g : Ge} {mo : Int} {rs : List Rq} {k n : Nat} {r : Rq} (hk : k < n) (hr : rs[k]? = some r) (hm : mapOk g mo r.line = false) : goodTo g mo rs n = false :=
  goodTo_end (k := k + 1) (by omega) (by simp only [goodTo, hr, hm]; simp)
theorem goodTo_dup {g : Ge} {mo : Int} {rs : List Rq} {k n : Nat} {r : Rq} (hk : k < n) (hr : rs[k]? = some r) (hn : ((rs.take k).any fun q => q.id == r.id) = true) : goodTo g mo rs n = false :=
  goodTo_end (k := k + 1) (by omega) (by simp only [goodTo, hr, hn]; simp)
theorem goodTo_at {g : Ge} {mo : Int} {rs : List Rq} : ∀ {n k : Nat} {r : Rq}, goodTo g mo rs n = true → k < n → rs[k]? = some r → mapOk g mo r.line = true
  | 0, k, r, _, hk, _ => by omega
  | n + 1, k, r, h, hk, hr => by
    simp only [goodTo, Bool.and_eq_true] at h
    by_cases e : k = n
    · subst e; rw [hr] at h; simp at h; exact h.2.1
    · exact goodTo_at h.1 (by omega) hr
theorem idFrom_any {rs : List Rq} {d : Int} : ∀ (f i k : Nat), i ≤ k → k < i + f → (∀ j, i ≤ j → j < k → ∀ r, rs[j]? = some r → (r.id == d) = false) → (∀ r, rs[k]? = some r → (r.id == d) = true) → k < rs.length → idFrom rs d f i = (k : Int)
  | 0, i, k, h1, h2, _, _, _ => by omega
  | f + 1, i, k, h1, h2, h3, h4, h5 => by
    have hi : rs[i]? = some (rs[i]'(by omega)) := List.getElem?_eq_getElem _
    unfold idFrom
    rw [hi]
    by_cases e : i = k
    · subst e
      simp only [h4 _ hi, if_true]
    · simp only [h3 i (Nat.le_refl _) (by omega) _ hi, Bool.false_eq_true, if_false]
      exact idFrom_any f (i + 1) k (by omega) (by omega) (fun j hj1 hj2 => h3 j (by omega) hj2) h4 h5
theorem any_take {rs : List Rq} {k : Nat} {d : Int} : ((rs.take k).any fun q => q.id == d) = true ↔ ∃ j, j < k ∧ ∃ r, rs[j]? = some r ∧ r.id = d := by
  rw [List.any_eq_true]
  constructor
  · rintro ⟨r, hr, e⟩
    obtain ⟨j, hj⟩ := List.getElem?_of_mem hr
    have hjk : j < k := by
      have := (List.getElem?_eq_some_iff.1 hj).1; rw [List.length_take] at this; omega
    rw [List.getElem?_take_of_lt hjk] at hj
    exact ⟨j, hjk, r, hj, by simpa using e⟩
  · rintro ⟨j, hj, r, hr, e⟩
    refine ⟨r, List.mem_of_getElem? (i := j) ?_, by simpa using e⟩
    rw [List.getElem?_take_of_lt hj]; exact hr
/-- The first place of an id is the place at hand if and only if no earlier request has it. -/
theorem idFrom_is {rs : List Rq} {n k : Nat} {r : Rq} (hl : rs.length = n) (hk : k < n) (hr : rs[k]? = some r) (h : ((rs.take k).any fun q => q.id == r.id) = false) : idFrom rs r.id n 0 = (k : Int) := by
  refine idFrom_any n 0 k (by omega) (by omega) (fun j _ hj q hq => ?_) (fun q hq => by rw [hr] at hq; injection hq with hq; subst hq; simp) (by omega)
  cases e : (q.id == r.id)
  · rfl
  · have : ((rs.take k).any fun q => q.id == r.id) = true := any_take.2 ⟨j, hj, q, hq, by simpa using e⟩
    rw [h] at this; cases this
theorem first_at {rs : List Rq} {d : Int} : ∀ k : Nat, (∃ j, j < k ∧ ∃ r : Rq, rs[j]? = some r ∧ r.id = d) → ∃ j, j < k ∧ (∃ r : Rq, rs[j]? = some r ∧ r.id = d) ∧ ∀ i, i < j → ∀ q : Rq, rs[i]? = some q → (q.id == d) = false
  | 0, h => by obtain ⟨j, hj, _⟩ := h; omega
  | k + 1, h => by
    by_cases hp : ∃ j, j < k ∧ ∃ r : Rq, rs[j]? = some r ∧ r.id = d
    · obtain ⟨j, hj, h1, h2⟩ := first_at k hp
      exact ⟨j, by omega, h1, h2⟩
    · obtain ⟨j, hj, r, hr, e⟩ := h
      refine ⟨j, hj, ⟨r, hr, e⟩, fun i hi q hq => ?_⟩
      cases e2 : (q.id == d)
      · rfl
      · exact absurd ⟨i, by omega, q, hq, by simpa using e2⟩ hp
theorem idFrom_not {rs : List Rq} {n k : Nat} {r : Rq} (hl : rs.length = n) (hk : k < n) (hr : rs[k]? = some r) (h : ((rs.take k).any fun q => q.id == r.id) = true) : idFrom rs r.id n 0 ≠ (k : Int) := by
  obtain ⟨j, hj, ⟨q, hq, e⟩, hf⟩ := first_at k (any_take.1 h)
  rw [idFrom_any n 0 j (by omega) (by omega) (fun i _ hi p hp => hf i hi p hp) (fun p hp => by rw [hq] at hp; injection hp with hp; subst hp; simpa using e) (by omega)]
  omega
def trOk (A : TrA) (rs : List Rq) : Bool := traceOk A rs.length && goodTo A.g A.mo rs rs.length
def trL (A : TrA) (rs : List Rq) : List Ev := if trOk A rs = true then trS A rs (nSlots A.u A.l) else []
theorem traceOk_bd {A : TrA} {n : Nat} (h : traceOk A n = true) : geoOk A.g = true ∧ tmOk A.t = true ∧ btw A.mo 0 2 = true ∧ servable A.zs A.l A.u n = true ∧ A.u ≤ 900000 ∧ slotNeed A.t ≤ A.l := by
  simpa [traceOk, Bool.and_eq_true, decide_eq_true_eq] using h
/-- What SlotTrace returns. -/
def GotTr (w : World) (K : Nat) (xs : List Ev) (ok : Bool) (e : Ending) (w' : World) : Prop :=
  ∃ a c, e = .returned (.tuple #[.slice a K c, .bool ok]) ∧ w'.ownsRow w.heap.size 100 5 (.slice a K c) K (xs.flatMap evF) ∧ Below w.heap.size w w'
end Go.Proofs.Ytahfbhfmhccgoaa
