/- Slices of structs of the call's own: a row made, filled and overwritten element by element. -/
import Derived.Test.YtahfbhfmhccgoaaStructs
import Derived.Deep.AppendLies
import Derived.Deep.RegionHeld3
set_option linter.unusedSimpArgs false
set_option linter.unusedVariables false
namespace Go.Proofs.Ytahfbhfmhccgoaa
open Go.RowKit Go.ChangeShapes Go.WideShapes Go.ChangeAt Go.Joins Go.Deep
open Go.ChangeMaps (open_string shut_string)

theorem made_row {sz : Nat} (C : Array Value) (hC : C.size = sz) {n : Nat} : (madeCells C (n * sz)).toList = (List.replicate n C.toList).flatten := by
  subst hC
  simp only [madeCells, Array.toList_map, Array.toList_range]
  induction n with
  | zero => simp
  | succ n ih =>
    rw [Nat.succ_mul, List.range_add, List.map_append, ih, List.replicate_succ', List.flatten_append, List.flatten_cons, List.flatten_nil, List.append_nil]
    congr 1
    rw [List.map_map]
    apply List.ext_getElem?
    intro i
    by_cases hi : i < C.size
    · simp [hi, Nat.mod_eq_of_lt hi]
    · simp [hi]
/-- Several cells set, one behind the other. -/
def setRow (xs : List Value) (o : Nat) : Nat → List Value → List Value
  | _, [] => xs
  | j, v :: vs => setRow (xs.set (o + j) v) o (j + 1) vs
def storeRow (w : World) (g o : Nat) : Nat → List Value → World
  | _, [] => w
  | j, v :: vs => storeRow (w.setCell ⟨g, o + j, none⟩ v) g o (j + 1) vs
theorem setRow_mid {A : List Value} {o : Nat} (hA : A.length = o) : ∀ (vs Z' Z B : List Value) (j : Nat), Z'.length = j → Z.length = vs.length → setRow (A ++ Z' ++ Z ++ B) o j vs = A ++ Z' ++ vs ++ B := by
  intro vs
  induction vs with
  | nil => intro Z' Z B j _ hZ; obtain rfl := List.eq_nil_of_length_eq_zero hZ; rfl
  | cons v vs ih =>
    intro Z' Z B j hj hZ
    match Z, hZ with
    | z :: Z, hZ =>
      show setRow ((A ++ Z' ++ (z :: Z) ++ B).set (o + j) v) o (j + 1) vs = _
      have e : (A ++ Z' ++ (z :: Z) ++ B).set (o + j) v = A ++ (Z' ++ [v]) ++ Z ++ B := by
        rw [List.append_assoc, List.append_assoc, List.set_append_right _ _ (by omega), List.set_append_right _ _ (by omega), hA, hj, show o + j - o - j = 0 by omega]
        simp
      rw [e, ih (Z' ++ [v]) Z B (j + 1) (by simp [hj]) (by simpa using hZ)]
      simp
theorem row_next {sz : Nat} {A vs Z : List Value} {k n : Nat} (hA : A.length = k * sz) (hk : k < n) (hZ : Z.length = sz) (hv : vs.length = sz) :
    setRow (A ++ (List.replicate (n - k) Z).flatten) (k * sz) 0 vs = A ++ vs ++ (List.replicate (n - (k + 1)) Z).flatten := by
  rw [show n - k = (n - (k + 1)) + 1 by omega, List.replicate_succ, List.flatten_cons]
  have := setRow_mid hA vs [] Z (List.replicate (n - (k + 1)) Z).flatten 0 rfl (by rw [hZ, hv])
  simpa using this
theorem row_over {sz : Nat} {A vs xs : List Value} {k n : Nat} (hA : A.length = k * sz) (hk : k < n) (hx : xs.length = n * sz) (hv : vs.length = sz) :
    setRow (A ++ xs.drop (k * sz)) (k * sz) 0 vs = A ++ vs ++ xs.drop ((k + 1) * sz) := by
  have hle : (k + 1) * sz ≤ n * sz := Nat.mul_le_mul_right _ hk
  have e : xs.drop (k * sz) = (xs.drop (k * sz)).take sz ++ xs.drop ((k + 1) * sz) := by
    rw [show (k + 1) * sz = k * sz + sz from Nat.succ_mul _ _, ← List.drop_drop, List.take_append_drop]
  rw [e]
  rw [Nat.succ_mul] at hle
  have := setRow_mid hA vs [] ((xs.drop (k * sz)).take sz) (xs.drop ((k + 1) * sz)) 0 rfl (by rw [List.length_take, List.length_drop, hv]; omega)
  simpa using this
theorem store_own {base g : Nat} {e : TypeId} {size n cap : Nat} : ∀ {w : World} {xs : List Value} (h : w.ownsRow base e size (.slice (some ⟨g, 0, none⟩) n cap) n xs) (o j : Nat) (vs : List Value),
    (storeRow w g o j vs).ownsRow base e size (.slice (some ⟨g, 0, none⟩) n cap) n (setRow xs o j vs) := by
  intro w xs h o j vs
  induction vs generalizing w xs j with
  | nil => exact h
  | cons v vs ih => exact ih (h.stored (o + j) v).1 (j + 1)
theorem store_owned {lo hi : Nat} {E : TypeId} {sz n c g : Nat} {w : World} {xs : List Value} (h : Owned lo hi w E sz (.some ⟨g, 0, none⟩) n c xs) (o j : Nat) (vs : List Value) :
    Owned lo hi (storeRow w g o j vs) E sz (.some ⟨g, 0, none⟩) n c (setRow xs o j vs) ∧ Save lo hi w (storeRow w g o j vs) := by
  induction vs generalizing w xs j with
  | nil => exact ⟨h, Save.refl _ _ _⟩
  | cons v vs ih =>
    obtain ⟨h1, h2⟩ := h.store (o + j) v
    obtain ⟨h3, h4⟩ := ih h1 (j + 1)
    exact ⟨h3, h2.trans h4⟩
theorem Owned.caps {lo hi n c : Nat} {w : World} {E : TypeId} {sz : Nat} {a : Option Addr} {xs : List Value} (h : Owned lo hi w E sz a n c xs) : n ≤ c ∧ c ≤ maxLen := by
  rcases h.1.2 with ⟨h1, h2⟩ | ⟨g, cap, cur, h1, _, _, h2, h3, _⟩
  · injection h1 with e1 e2 e3
    subst e2 e3
    exact ⟨Nat.le_refl _, Nat.zero_le _⟩
  · injection h1 with e1 e2 e3
    subst e3
    exact ⟨h2, h3⟩
theorem own_caps {n c base : Nat} {w : World} {E : TypeId} {sz : Nat} {a : Option Addr} {xs : List Value} (h : w.ownsRow base E sz (.slice a n c) n xs) : n ≤ c ∧ c ≤ maxLen := by
  rcases h.2 with ⟨h1, h2⟩ | ⟨g, cap, cur, h1, _, _, h2, h3, _⟩
  · injection h1 with e1 e2 e3
    subst e2 e3
    exact ⟨Nat.le_refl _, Nat.zero_le _⟩
  · injection h1 with e1 e2 e3
    subst e3
    exact ⟨h2, h3⟩
theorem own_below {w w1 : World} {base : Nat} {e : TypeId} {size : Nat} {v : Value} {n : Nat} {xs : List Value} {B : Nat} (h : w.ownsRow base e size v n xs) (hb : Below B w w1) (hB : ∀ k, v.ownBlock = some k → k < B) : w1.ownsRow base e size v n xs := by
  refine ⟨h.1, ?_⟩
  rcases h.2 with h0 | ⟨g, cap, cur, h1, h2, h3, h4⟩
  · exact .inl h0
  · exact .inr ⟨g, cap, cur, h1, h2, by rw [hb.block g (hB g (by rw [h1]; rfl))]; exact h3, h4⟩
theorem flat_snoc {α β : Type} {f : α → List β} {xs : List α} {k : Nat} {x : α} (h : xs[k]? = some x) : (xs.take (k + 1)).flatMap f = (xs.take k).flatMap f ++ f x := by
  rw [take_snoc h, List.flatMap_append]; simp
theorem isStructs_own {α : Type} {f : α → List Value} {sz : Nat} {w : World} {B : Nat} {E : TypeId} {a : Option Addr} {n c : Nat} {xs : List α} (hf : ∀ x, (f x).length = sz) (hsz : 0 < sz) (h : w.ownsRow B E sz (.slice a n c) n (xs.flatMap f)) : IsStructs f sz w a n c xs := by
  obtain ⟨hl, h⟩ := h
  have hlen : xs.length = n := Nat.eq_of_mul_eq_mul_right hsz (by rw [← flat_len hf, hl])
  rcases h with ⟨he, rfl⟩ | ⟨g, cap, cur, he, _, hg, hn, hc, hs, ht⟩
  · injection he with e1 e2 e3
    subst e1 e3
    obtain rfl : xs = [] := List.eq_nil_of_length_eq_zero hlen
    exact ⟨rfl, Nat.le_refl _, Nat.zero_le _, RowIn.nil _ _⟩
  · injection he with e1 e2 e3
    subst e1 e3
    refine ⟨hlen, hn, hc, fun i v hv => ⟨g, 0, rfl, ?_⟩⟩
    rw [← ht] at hv
    simp only [Nat.zero_add, World.cell?, hg]
    rw [List.getElem?_take] at hv
    split at hv
    · simpa using hv
    · cases hv
theorem below_app {B base : Nat} {w wr w3 : World} {e : TypeId} {size n : Nat} {v : Value} {xs : List Value} {o : Obj} (hB : Below B w wr) (hown : wr.ownsRow base e size v n xs) (h1 : B ≤ base) (h2 : B ≤ wr.heap.size)
    (hg : (wr.alloc o).grownBy w3 v.ownBlock) : Below B w w3 ∧ wr.heap.size < w3.heap.size := by
  refine ⟨(hB.alloc h2 o).grown hg (by simp; omega) (fun j hj => by have := (hown.lt j hj).1; omega), ?_⟩
  have := hg.size
  simp only [World.size_alloc] at this
  omega
theorem below_appr {B base : Nat} {w wr w3 : World} {e : TypeId} {size n : Nat} {v : Value} {xs : List Value} {o : Obj} (hB : Below B w wr) (hown : wr.ownsRow base e size v n xs) (h1 : B ≤ base) (h2 : B ≤ wr.heap.size)
    (hg : (World.drew (wr.alloc o)).grownBy w3 v.ownBlock) : Below B w w3 ∧ wr.heap.size < w3.heap.size :=
  below_app hB hown h1 h2 ⟨hg.os, hg.tape, hg.output, hg.size, hg.block⟩
theorem own_far {w : World} {base : Nat} {e : TypeId} {size : Nat} {v : Value} {n : Nat} {xs : List Value} {b : Nat} (h : w.ownsRow base e size v n xs) (hb : b < base) : some b ≠ v.ownBlock := by
  intro e
  have := (h.lt b e.symm).1
  omega
section
variable {P : Program} {w : World} {base : Nat} {e : TypeId} {size : Nat}
theorem run_append_none (t ty : TypeId) (i : TypeInfo) (ht : P.underlying t = some (.slice e)) (hi : P.info? e = some i) (v : Value) (n c : Nat) (xs : List Value) (hown : w.ownsRow base e size v n xs) :
    (Builtin.append_ #[t, t] ty #[v, .slice none 0 c]).run P w = .ok v w := by
  rcases hown.2 with ⟨rfl, rfl⟩ | ⟨g, cap, cur, rfl, _, _, hnc, _⟩
  · simp [Builtin.append_, run_underlying ht, sizeOf, typeInfo, hi, Builtin.lenOf, Builtin.firstCells]
  · simp [Builtin.append_, run_underlying ht, sizeOf, typeInfo, hi, Builtin.lenOf, Builtin.firstCells, hnc, storeCells]
/-- append of all elements of a slice that can be read (nil too) to a slice of the call's own. -/
theorem wpList_append_any {ops : Array Oper} {rest : List Oper} {o : Oper} {a : Act} {Q : Exit → Act → World → Prop} (hgd : o.guard = none) (s x : Operand) (t : TypeId)
    (ho : o.op = .call { callee := .builtin .append, args := #[s, x], argTypes := #[t, t] })
    (base : Nat) (e : TypeId) (i : TypeInfo) (z : Value) (size bytes : Nat) (ht : P.underlying t = some (.slice e)) (hi : P.info? e = some i) (hz : i.zero = some z)
    (hsize : i.size = size) (hby : i.bytes = bytes) (hzs : z.cells.size = size) (hsz : 0 < size)
    (v : Value) (n : Nat) (xs : List Value) (hs : a.eval s = v) (hown : w.ownsRow base e size v n xs)
    (ad : Option Addr) (m c : Nat) (news : List Value) (hx : a.eval x = .slice ad m c) (hl : news.length = m * size) (hnews : RowIn w ad news) (h1 : ∀ u ∈ news, u.oneCell' = true)
    (h63 : n + m ≤ maxLen) (hbytes : (n + m) * bytes ≤ 140737488355328) (hbase : base ≤ w.heap.size)
    (h : ∀ v' w', w'.ownsRow base e size v' (n + m) (xs ++ news) → w.grownBy w' v.ownBlock → wpList P ops Q rest (a.put o.dst v') w') : wpList P ops Q (o :: rest) a w := by
  by_cases hm : m = 0
  · subst hm
    obtain rfl : news = [] := List.eq_nil_of_length_eq_zero (by rw [hl, Nat.zero_mul])
    cases ad with
    | none =>
      refine wpList_plain hgd fun K hK => ?_
      have hrun := run_append_none (P := P) (w := w) (base := base) (size := size) t o.type i ht hi v n c xs hown
      unfold Oper.wp
      simp [execOp, ho, resolve, invoke, builtin, hs, hx, hrun, Result.andThen]
      exact hK _ _ (h v w (by simpa using hown) (only_refl _ _))
    | some ad => exact wpList_append_own w hgd s x t ho base e i z size bytes ht hi hz hsize hby hzs hsz v n xs hs hown ad 0 c [] hx (by simp) (by simp) (by simp) h63 hbytes hbase fun v' w' h2 h3 _ => h v' w' h2 h3
  · have hlen : 0 < news.length := by rw [hl]; exact Nat.mul_pos (by omega) hsz
    obtain ⟨b, off, rfl, hb, hc⟩ := hnews.at0 hlen
    exact wpList_append_own w hgd s x t ho base e i z size bytes ht hi hz hsize hby hzs hsz v n xs hs hown _ m c news hx hl (fun j u hj => by rw [addr_add]; exact hc j u hj) h1 h63 hbytes hbase fun v' w' h2 h3 _ => h v' w' h2 h3
end
theorem below_grown {B base : Nat} {w wr w3 : World} {e : TypeId} {size n : Nat} {v : Value} {xs : List Value} (hB : Below B w wr) (hown : wr.ownsRow base e size v n xs) (h1 : B ≤ base) (h2 : B ≤ wr.heap.size)
    (hg : wr.grownBy w3 v.ownBlock) : Below B w w3 :=
  hB.grown hg h2 (fun j hj => by have := (hown.lt j hj).1; omega)
theorem flat_ones {α : Type} {f : α → List Value} (h : ∀ x, (f x).all (·.oneCell') = true) (xs : List α) : ∀ u ∈ xs.flatMap f, u.oneCell' = true := by
  intro u hu
  obtain ⟨x, _, hx⟩ := List.mem_flatMap.1 hu
  exact List.all_eq_true.1 (h x) u hx
/-- The cells of a block just made. -/
theorem news_at (w : World) (cs : List Value) (T : TypeId) : ∀ (j : Nat) (u : Value), cs[j]? = some u → (w.alloc (.cells cs.toArray T)).cell? ((⟨w.heap.size, 0, none⟩ : Addr).add j) = some u := by
  intro j u hj
  rw [addr_add, Nat.zero_add, World.cell?_alloc_new]
  simpa using hj
theorem news_at_of (w : World) (cs : List Value) (T : TypeId) {b : Nat} (hb : b = w.heap.size) : ∀ (j : Nat) (u : Value), cs[j]? = some u → (w.alloc (.cells cs.toArray T)).cell? ((⟨b, 0, none⟩ : Addr).add j) = some u := by
  subst hb; exact news_at w cs T
theorem own_set {w : World} {base g o : Nat} {e : TypeId} {size n : Nat} {v : Value} {xs : List Value} (h : w.ownsRow base e size v n xs) (hg : g < base) (u : Value) : (w.setCell ⟨g, o, none⟩ u).ownsRow base e size v n xs :=
  h.kept (row := some g) (only_set (only_refl _ _) _) (own_ne h hg)
theorem flat_drop {α β : Type} {f : α → List β} {sz : Nat} (hf : ∀ x, (f x).length = sz) : ∀ (k : Nat) (xs : List α), (xs.drop k).flatMap f = (xs.flatMap f).drop (k * sz) := by
  intro k
  induction k with
  | zero => intro xs; simp
  | succ k ih =>
    intro xs
    cases xs with
    | nil => simp
    | cons x xs => rw [List.drop_succ_cons, ih, List.flatMap_cons, Nat.succ_mul, Nat.add_comm, ← List.drop_drop, List.drop_left' (hf x)]
/-- A slice expression x[k:] of a slice of structs. -/
theorem IsStructs.drop {α : Type} {f : α → List Value} {sz : Nat} {w : World} {b o n c : Nat} {xs : List α} (hf : ∀ x, (f x).length = sz) (h : IsStructs f sz w (some ⟨b, o, none⟩) n c xs) {k : Nat} (hk : k ≤ n) :
    IsStructs f sz w (some ⟨b, o + k * sz, none⟩) (n - k) (c - k) (xs.drop k) := by
  obtain ⟨h1, h2, h3, h4⟩ := h
  refine ⟨by rw [List.length_drop, h1], by omega, by omega, fun i v hv => ?_⟩
  rw [flat_drop hf, List.getElem?_drop] at hv
  obtain ⟨b', o', e, hc⟩ := h4 _ v hv
  injection e with e
  injection e with e1 e2
  subst e1 e2
  exact ⟨b, o + k * sz, rfl, by rw [Nat.add_assoc]; exact hc⟩
theorem flat_set {α β : Type} {f : α → List β} {sz : Nat} (hf : ∀ x, (f x).length = sz) : ∀ (xs : List α) (k j : Nat) (x x' : α) (v : β), xs[k]? = some x → f x' = (f x).set j v → j < sz → (xs.flatMap f).set (k * sz + j) v = (xs.set k x').flatMap f := by
  intro xs
  induction xs with
  | nil => intro k j x x' v h; simp at h
  | cons y ys ih =>
    intro k j x x' v h hv hj
    cases k with
    | zero =>
      simp at h; subst h
      rw [List.flatMap_cons, List.set_cons_zero, List.flatMap_cons, List.set_append_left _ _ (by rw [hf]; omega), Nat.zero_mul, Nat.zero_add, hv]
    | succ k =>
      rw [List.flatMap_cons, List.set_cons_succ, List.flatMap_cons, List.set_append_right _ _ (by rw [hf, Nat.succ_mul]; omega), hf, show (k + 1) * sz + j - sz = k * sz + j by rw [Nat.succ_mul]; omega, ih k j x x' v (by simpa using h) hv hj]
end Go.Proofs.Ytahfbhfmhccgoaa
