/- The error log's store: a struct of one slice of two texts: the laws' helpers, and a new log. -/
import Derived.Test.YtheifhjnbpbkhaaDoorStrs
set_option linter.unusedSimpArgs false
set_option linter.unusedVariables false
namespace Go.Proofs.YtheifhjnbpbkhaaDoor
open Go.RowKit Go.ChangeShapes Go.WideShapes Go.ChangeAt Go.Joins Go.Deep
open Go.ChangeMaps (open_string shut_string)
theorem own_lit (w : World) (base : Nat) (e : TypeId) (cs : Array Value) (n : Nat) (hn : cs.size = n) (hm : n ≤ maxLen) (hb : base ≤ w.heap.size) : (w.alloc (.cells cs e)).ownsRow base e 1 (.slice (some ⟨w.heap.size, 0, none⟩) n n) n cs.toList :=
  ⟨by simp [hn], .inr ⟨w.heap.size, n, cs, rfl, hb, heap_alloc_new w _, Nat.le_refl _, hm, by omega, by rw [List.take_of_length_le (by simp [hn])]⟩⟩
set_option maxHeartbeats 400000 in
theorem laws_eqLogStore (a b : Option Addr) (n c c' : Nat) (zs : List ByteArray) (w : World) (ha : IsStrs w a n c zs) (hb : IsStrs w b n c' zs) :
    Calls Tryd.prog 21 #[.agg #[.slice a n c], .agg #[.slice b n c']] w fun e w' => e = .returned (.bool true) ∧ Below w.heap.size w w' := by
  have HA := hide ha; have HB := hide hb
  clear ha hb
  go_enter Tryd.func21, Tryd.ntmps21
  go_wp2_with fail
  refine (laws_eqStringS a b n c c' zs _ (HA.out.below (B := w.heap.size) (by go_grown) (Nat.le_refl _)) (HB.out.below (B := w.heap.size) (by go_grown) (Nat.le_refl _))).mono ?_
  rintro e w1 ⟨rfl, h1⟩
  have s1 := h1.size
  try simp only [World.size_alloc, World.size_setCell, World.size_drew, World.heap_drewN] at s1
  have B1_1 := h1
  have z1_0 : w.heap.size < w1.heap.size := by omega
  have q1_0 := fun o => (bcell B1_1).1 (w.heap.size) o (by go_size)
  have f1_0 := fun o => (bcell B1_1).2 (w.heap.size) o (by go_size)
  have z1_1 : w.heap.size + 1 < w1.heap.size := by omega
  have q1_1 := fun o => (bcell B1_1).1 (w.heap.size + 1) o (by go_size)
  have f1_1 := fun o => (bcell B1_1).2 (w.heap.size + 1) o (by go_size)
  have H1 : Below w.heap.size w w1 := bthen (by repeat' (first | (with_reducible exact Below.refl _ _) | (with_reducible assumption) | (with_reducible refine bdrawn ?_ _) | (with_reducible refine Below.alloc ?_ ?_ _) | (with_reducible refine Below.drew ?_) | (with_reducible refine Below.setCell ?_ ?_ _) | go_size)) h1 (by go_size)
  have C1 := (bcell H1).1; have F1 := (bcell H1).2
  go_wp2_with fail
  go_ret
  exact ⟨rfl, H1⟩
set_option maxHeartbeats 400000 in
theorem laws_markLogStore (lo hi : Nat) (a : Option Addr) (n c : Nat) (k0 : Int) (xs : List Value) (w : World) (hk0 : 1 ≤ k0 ∧ k0 ≤ 1000000000) (hs : n ≤ 1048576) (hh : hi ≤ w.heap.size) (ho : Owned lo hi w 9 1 a n c xs) :
    Calls Tryd.prog 22 #[.agg #[.slice a n c], .int .i64 k0] w (MarkedS lo hi w a n c k0) := by
  have HO := hide ho
  clear ho
  go_enter Tryd.func22, Tryd.ntmps22
  go_wp2_with fail
  refine (laws_markStringS lo hi a n c k0 xs _ hk0 hs (by simp; omega) (HO.out.below (B := w.heap.size) (by go_grown) hh)).mono ?_
  rintro e w1 ⟨rfl, o1, v1⟩
  have v2 : Save lo hi w w1 := (Save.of_below (by go_grown)).trans v1
  go_wp2_with fail
  go_ret
  exact ⟨rfl, o1, v2⟩
set_option maxHeartbeats 400000 in
theorem laws_heldLogStore (a : Option Addr) (n c : Nat) (k0 : Int) (w : World) (hk0 : 1 ≤ k0 ∧ k0 ≤ 1000000000) (hs : n ≤ 1048576) (hb : IsStrs w a n c (markS k0 n)) :
    Calls Tryd.prog 23 #[.agg #[.slice a n c], .int .i64 k0] w fun e w' => e = .returned (.int .i64 (k0 + n)) ∧ Below w.heap.size w w' := by
  have HB := hide hb
  have hk1 := hk0.1; have hk2 := hk0.2
  clear hb
  go_enter Tryd.func23, Tryd.ntmps23
  go_wp2_with fail
  refine (laws_heldStringS a n c k0 _ hk0 hs (HB.out.below (B := w.heap.size) (by go_grown) (Nat.le_refl _))).mono ?_
  rintro e w1 ⟨rfl, h1⟩
  have h2 : Below w.heap.size w w1 := bthen (by go_grown) h1 (by go_size)
  go_wp2_with fail
  go_ret
  exact ⟨rfl, h2⟩
theorem save_cell {lo hi b : Nat} {v v' : World} (h : Save lo hi v v') (hl : b < v.heap.size) (hd : b < lo ∨ hi ≤ b) (o : Nat) : v'.cell? ⟨b, o, none⟩ = v.cell? ⟨b, o, none⟩ := by
  unfold World.cell?; rw [h.block b hl hd]
/-- A store in new memory. -/
def FreshL (w : World) (n : Nat) (ss : List ByteArray) (e : Ending) (w' : World) : Prop :=
  ∃ a c, e = .returned (.agg #[.slice a n c]) ∧ w'.ownsRow w.heap.size 9 1 (.slice a n c) n (ss.map Value.string) ∧ Below w.heap.size w w'
theorem isStructs_nil (w : World) : IsStructs enF 3 w none 0 0 [] := ⟨rfl, Nat.le_refl _, by unfold maxLen; omega, RowIn.nil _ _⟩
theorem isStructs_zero (w : World) (b : Nat) : IsStructs enF 3 w (some ⟨b, 0, none⟩) 0 0 [] := ⟨rfl, Nat.le_refl _, by unfold maxLen; omega, RowIn.nil _ _⟩
theorem own_two {w : World} {base b : Nat} {v : Value} {t u : List UInt8} (hb : base ≤ w.heap.size) :
    ((w.setCell ⟨b, 0, none⟩ v).alloc (.cells #[.string (strOf t), .string (strOf u)] 9)).ownsRow base 9 1 (.slice (some ⟨w.heap.size, 0, none⟩) 2 2) 2 ([strOf t, strOf u].map Value.string) := by
  have := own_lit (w.setCell ⟨b, 0, none⟩ v) base 9 #[.string (strOf t), .string (strOf u)] 2 rfl (by unfold maxLen; omega) (by simp; omega)
  simpa using this
def log0 : List ByteArray := [strOf (enc 1 []), strOf []]
set_option maxHeartbeats 1000000 in
theorem impl_LogNew (w : World) (hG : Good w) : Calls Tryd.prog 20 #[] w (FreshL w 2 log0) := by
  have HG := hide hG
  clear hG
  obtain ⟨t, ht⟩ : ∃ t, enc 1 [] = t := ⟨_, rfl⟩
  have HT := hide ht
  clear ht
  go_enter Tryd.func20, Tryd.ntmps20
  go_wp2_with fail
  refine (impl_EncodeErrors 1 none 0 0 [] t _ (isStructs_nil _) (by decide) HT.out (HG.out.below (by go_grown))).mono ?_
  rintro e w1 ⟨rfl, h1⟩
  have hcell := (bcell h1).1 w.heap.size 0 (by simp)
  have hfree := (bcell h1).2 w.heap.size 0 (by simp)
  have h2 : Below w.heap.size w w1 := bthen (by go_grown) h1 (by go_size)
  have hsz : w.heap.size < w1.heap.size := by have := h1.size; simp at this; omega
  go_wp2_with fail
  refine bodyPost_ret (by simp [results, Tryd.results20, go_sem, *]; try rfl) rfl ?_
  refine ⟨_, _, rfl, ?_, ?_⟩
  · unfold log0; rw [HT.out]; exact own_two (t := t) (u := []) (by omega)
  · exact Below.alloc (Below.setCell h2 (Nat.le_refl _) _) (by simp; omega) _
set_option maxHeartbeats 1000000 in
theorem spec_LogNew (w : World) : Calls Tryd.prog 19 #[] w (FreshL w 2 log0) := by
  obtain ⟨t, ht⟩ : ∃ t, enc 1 [] = t := ⟨_, rfl⟩
  have HT := hide ht
  clear ht
  go_enter Tryd.func19, Tryd.ntmps19
  go_wp2_with fail
  refine (spec_EncodeErrors 1 _ 0 0 [] t _ (isStructs_zero _ _) (by decide) HT.out).mono ?_
  rintro e w1 ⟨rfl, h1⟩
  have hcell := (bcell h1).1 w.heap.size 0 (by go_size)
  have hfree := (bcell h1).2 w.heap.size 0 (by go_size)
  have h2 : Below w.heap.size w w1 := bthen (by go_grown) h1 (by go_size)
  have hsz : w.heap.size < w1.heap.size := by have := h1.size; simp at this; omega
  go_wp2_with fail
  refine bodyPost_ret (by simp [results, Tryd.results19, go_sem, *]; try rfl) rfl ?_
  refine ⟨_, _, rfl, ?_, ?_⟩
  · unfold log0; rw [HT.out]; exact own_two (t := t) (u := []) (by omega)
  · exact Below.alloc (Below.setCell h2 (Nat.le_refl _) _) (by simp; omega) _
end Go.Proofs.YtheifhjnbpbkhaaDoor
