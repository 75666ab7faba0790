/- The poisoned lines of an array: the walks of the program and of the reference. -/
import Derived.Test.YtkhcepmileiejaaArOs
import Derived.Test.YtkhcepmileiejaaArW
set_option linter.unusedSimpArgs false
set_option linter.unusedVariables false
namespace Go.Proofs.Ytkhcepmileiejaa
open Go.RowKit Go.ChangeShapes Go.WideShapes Go.ChangeAt Go.Joins Go.Deep
open Go.ChangeMaps (open_string shut_string)
def poisTo (cs : List (List Int × Bool)) (k : Nat) : List Nat := (List.range k).filter fun i => (cs.getD i ([], false)).2
theorem poisTo_succ (cs : List (List Int × Bool)) (k : Nat) : poisTo cs (k + 1) = if (cs.getD k ([], false)).2 = true then poisTo cs k ++ [k] else poisTo cs k := by
  unfold poisTo
  rw [List.range_succ, List.filter_append]
  by_cases h : (cs.getD k ([], false)).2 = true
  · rw [if_pos h, List.filter_cons_of_pos (by exact h)]; rfl
  · rw [if_neg h, List.filter_cons_of_neg (by exact h), List.filter_nil, List.append_nil]
theorem poisTo_len (cs : List (List Int × Bool)) (k : Nat) : (poisTo cs k).length ≤ k := by
  have := List.length_filter_le (fun i => (cs.getD i ([], false)).2) (List.range k)
  rw [List.length_range] at this; exact this
def poisL (g : Ge) (C : Con) : List Nat := if arOk g C = true then poisTo C.cs C.cs.length else []
theorem poisTo_lt {cs : List (List Int × Bool)} {k : Nat} : ∀ x ∈ poisTo cs k, x < k := fun x hx => by
  have := (List.mem_filter.1 hx).1
  exact List.mem_range.1 this
theorem AoS.start0 (w : World) (g : Ge) (a a2 a3 : Option Addr) (n c n2 c2 n3 c3 : Nat) (T1 T2 : TypeId) : AoS w g a a2 a3 n c n2 c2 n3 c3 ((w.alloc (.cells #[.int .i64 g.gr, .int .i64 g.bk, .int .i64 g.rw, .int .i64 g.cl] T1)).alloc (.cells #[.slice a n c, .slice a2 n2 c2, .slice a3 n3 c3] T2)) :=
  ⟨by simp [go_sem], by simp [go_sem], by simp [go_sem], by simp [go_sem], by simp [go_sem], by simp [go_sem], by simp [go_sem], by simp, Below.alloc (Below.alloc (Below.refl _ _) (Nat.le_refl _) _) (by simp) _⟩
theorem AoS.nextB {w v v' : World} {g : Ge} {a a2 a3 : Option Addr} {n c n2 c2 n3 c3 : Nat} (h : AoS w g a a2 a3 n c n2 c2 n3 c3 v) (hb : Below (w.heap.size + 1 + 1) v v') : AoS w g a a2 a3 n c n2 c2 n3 c3 v' := by
  obtain ⟨h0, h1, h2, h3, h4, h5, h6, h7, h8⟩ := h
  have hs := hb.size
  have hc := (bcell hb).1
  exact ⟨(hc _ _ (by omega)).trans h0, (hc _ _ (by omega)).trans h1, (hc _ _ (by omega)).trans h2, (hc _ _ (by omega)).trans h3, (hc _ _ (by omega)).trans h4, (hc _ _ (by omega)).trans h5, (hc _ _ (by omega)).trans h6, by omega, h8.trans (hb.mono (by omega))⟩
/-- A list of numbers in new memory. -/
def FreshP (w : World) (N : Nat) (zs : List Nat) (e : Ending) (w' : World) : Prop :=
  ∃ a c, e = .returned (.slice a N c) ∧ w'.ownsRow w.heap.size 3 1 (.slice a N c) N ((ints zs).map (.int .i64)) ∧ Below w.heap.size w w'
set_option maxRecDepth 100000 in
set_option maxHeartbeats 1000000 in
theorem impl_Poisoned (g : Ge) (A : Ar) (w : World) (N : Nat) (hN : (poisL g A.con).length = N) (hA : IsAr w A) (ht : A.tot ≤ 1048576) :
    Calls Try.prog 14 #[.agg #[.int .i64 g.gr, .int .i64 g.bk, .int .i64 g.rw, .int .i64 g.cl], .agg #[.slice A.a A.n A.c, .slice A.ag.1.a A.ag.1.n A.ag.1.c, .slice A.ht.1.a A.ht.1.n A.ht.1.c]] w (FreshP w N (poisL g A.con)) := by
  obtain ⟨i0_int, hi_int, hz0_int, hz1_int, hz2_int⟩ := info_parts info_int
  obtain ⟨a, n, c, es, ⟨⟨a2, n2, c2⟩, z2⟩, ⟨⟨a3, n3, c3⟩, z3⟩⟩ := A
  have HA := hide hA; have HT := hide ht; have HN := hide hN
  have hn1 : n ≤ 1048576 := by simp only [Ar.tot] at ht; omega
  have hc1 : n ≤ c := hA.1.1.2.1
  have hm1 : c ≤ 9223372036854775807 := hA.1.1.2.2.1
  have hB2 : Below w.heap.size w ((w.alloc (.cells #[.int .i64 g.gr, .int .i64 g.bk, .int .i64 g.rw, .int .i64 g.cl] 30)).alloc (.cells #[.slice a n c, .slice a2 n2 c2, .slice a3 n3 c3] 34)) := Below.alloc (Below.alloc (Below.refl _ _) (Nat.le_refl _) _) (by simp) _
  have HAW := hide (HA.out.below hB2 (Nat.le_refl _))
  clear ht hN hA hB2
  cases hok : arOk g (⟨a, n, c, es, ⟨⟨a2, n2, c2⟩, z2⟩, ⟨⟨a3, n3, c3⟩, z3⟩⟩ : Ar).con
  · have HP : Hid (poisL g (⟨a, n, c, es, ⟨⟨a2, n2, c2⟩, z2⟩, ⟨⟨a3, n3, c3⟩, z3⟩⟩ : Ar).con = []) := hide (by unfold poisL; rw [if_neg (by rw [hok]; simp)])
    obtain rfl : N = 0 := by rw [← HN.out, HP.out]; rfl
    go_enter Try.func14, Try.ntmps14
    go_wp2_with fail
    refine (impl_ArrayOk g ⟨a, n, c, es, ⟨⟨a2, n2, c2⟩, z2⟩, ⟨⟨a3, n3, c3⟩, z3⟩⟩ false _ hok HAW.out HT.out).mono ?_
    rintro e w1 ⟨rfl, h1⟩
    have s1 := h1.size
    try simp only [World.size_alloc, World.size_setCell, World.size_drew, World.heap_drewN] at s1
    have B1_1 := h1
    have z1_0 : w.heap.size < w1.heap.size := by omega
    have q1_0 := fun o => (bcell B1_1).1 (w.heap.size) o (by go_size)
    have f1_0 := fun o => (bcell B1_1).2 (w.heap.size) o (by go_size)
    have z1_1 : w.heap.size + 1 < w1.heap.size := by omega
    have q1_1 := fun o => (bcell B1_1).1 (w.heap.size + 1) o (by go_size)
    have f1_1 := fun o => (bcell B1_1).2 (w.heap.size + 1) o (by go_size)
    have H1 : Below w.heap.size w w1 := bthen (by repeat' (first | (with_reducible exact Below.refl _ _) | (with_reducible assumption) | (with_reducible refine bdrawn ?_ _) | (with_reducible refine Below.alloc ?_ ?_ _) | (with_reducible refine Below.drew ?_) | (with_reducible refine Below.setCell ?_ ?_ _) | go_size)) h1 (by go_size)
    have C1 := (bcell H1).1; have F1 := (bcell H1).2
    go_wp2_with fail
    go_ret
    exact ⟨none, 0, rfl, by rw [HP.out]; exact ⟨rfl, .inl ⟨rfl, rfl⟩⟩, H1⟩
  · have HP : Hid (poisL g (⟨a, n, c, es, ⟨⟨a2, n2, c2⟩, z2⟩, ⟨⟨a3, n3, c3⟩, z3⟩⟩ : Ar).con = poisTo (es.map conC) n) := hide (by unfold poisL; rw [if_pos hok]; simp only [Ar.con, List.length_map]; rw [HA.out.1.1.1])
    go_enter Try.func14, Try.ntmps14
    go_wp2_with fail
    refine (impl_ArrayOk g ⟨a, n, c, es, ⟨⟨a2, n2, c2⟩, z2⟩, ⟨⟨a3, n3, c3⟩, z3⟩⟩ true _ hok HAW.out HT.out).mono ?_
    rintro e w1 ⟨rfl, h1⟩
    have s1 := h1.size
    try simp only [World.size_alloc, World.size_setCell, World.size_drew, World.heap_drewN] at s1
    have B1_1 := h1
    have z1_0 : w.heap.size < w1.heap.size := by omega
    have q1_0 := fun o => (bcell B1_1).1 (w.heap.size) o (by go_size)
    have f1_0 := fun o => (bcell B1_1).2 (w.heap.size) o (by go_size)
    have z1_1 : w.heap.size + 1 < w1.heap.size := by omega
    have q1_1 := fun o => (bcell B1_1).1 (w.heap.size + 1) o (by go_size)
    have f1_1 := fun o => (bcell B1_1).2 (w.heap.size + 1) o (by go_size)
    have H1 : Below w.heap.size w w1 := bthen (by repeat' (first | (with_reducible exact Below.refl _ _) | (with_reducible assumption) | (with_reducible refine bdrawn ?_ _) | (with_reducible refine Below.alloc ?_ ?_ _) | (with_reducible refine Below.drew ?_) | (with_reducible refine Below.setCell ?_ ?_ _) | go_size)) h1 (by go_size)
    have C1 := (bcell H1).1; have F1 := (bcell H1).2
    have HC := hide HA.out.1.1
    have HO1 := own_made_at (w := w1) (base := w1.heap.size) (b := w1.heap.size) (e := 3) (size := 1) rfl (Nat.le_refl _)
    have hB1 : Below w.heap.size w (w1.alloc (.cells #[] 3)) := Below.alloc H1 (by omega) _
    go_wp2_with fail
    go_loopw [5, 16] (fun vo vi wr => ∃ (m : Nat) (a' : Option Addr) (c' M : Nat), m ≤ n ∧ vi = .int .i64 m ∧ vo = .slice a' M c' ∧ (poisTo (es.map conC) m).length = M ∧ wr.ownsRow w1.heap.size 3 1 (.slice a' M c') M ((ints (poisTo (es.map conC) m)).map (.int .i64)) ∧ Below w.heap.size w wr ∧ w1.heap.size ≤ wr.heap.size) (fun _ vi _ => n - (intOf vi).toNat)
    case atStart => exact ⟨0, _, _, 0, by omega, rfl, rfl, rfl, HO1, hB1, by simp⟩
    case round =>
      clear HO1 hB1
      obtain ⟨m, a', c', M, hmn, rfl, rfl, hM, hown, hBr, hsw⟩ := hrel
      have hsr := hBr.size
      by_cases hlt : m < n
      · obtain ⟨e, be, oe, he, rfl, hlb, hcell⟩ := HC.out.get clF_len (by omega) hlt
        have e0 : wr.cell? ⟨be, oe + m * 2, none⟩ = some (.slice e.h.a e.h.n e.h.c) := (hBr.cell (p := ⟨be, oe + (m * 2 + 0), none⟩) hlb).trans (hcell 0 _ rfl)
        have e1 : wr.cell? ⟨be, oe + m * 2 + 1, none⟩ = some (.bool e.p) := (hBr.cell (p := ⟨be, oe + (m * 2 + 1), none⟩) hlb).trans (hcell 1 _ rfl)
        have hpe : ((es.map conC).getD m ([], false)).2 = e.p := by rw [List.getD_eq_getElem?_getD, List.getElem?_map, he]; rfl
        have HS := hide (poisTo_succ (es.map conC) m)
        rw [hpe] at HS
        have hMm := poisTo_len (es.map conC) m
        have i0 : (0 : Int) ≤ (m : Int) := by omega
        have i1 : (m : Int) < (n : Int) := by omega
        have HO := hide hown; have HM := hide hM
        clear hcell he hown hpe
        cases hp : e.p
        · rw [hp] at e1 HS
          go_wp2_with fail
          go_roundw
          case rel => exact ⟨m + 1, _, _, M, by omega, by go_num, rfl, by rw [HS.out]; exact HM.out, by rw [HS.out]; exact HO.out.alloc _, by go_grown, by simp; omega⟩
          case measure => simp [intOf]; omega
        · rw [hp] at e1 HS
          have HOa := hide (HO.out.alloc (.cells #[.slice e.h.a e.h.n e.h.c, .bool true] 70))
          have hBa : Below w.heap.size w (wr.alloc (.cells #[.slice e.h.a e.h.n e.h.c, .bool true] 70)) := Below.alloc hBr (by omega) _
          rw [HM.out] at hMm
          have hWs : (wr.alloc (.cells #[.slice e.h.a e.h.n e.h.c, .bool true] 70)).heap.size = wr.heap.size + 1 := by simp
          go_wp2_with (at_builtin; refine wpList_append_own _ rfl _ _ 25 rfl w1.heap.size 3 i0_int (.int .i64 0) 1 8 Try.underlying25 hi_int hz0_int hz1_int hz2_int rfl (by decide) _ _ _ rfl (HOa.out.alloc _) ⟨wr.heap.size + 1, 0, none⟩ 1 1 [.int .i64 (m : Nat)] rfl rfl ?c1p ?c2p ?c3p ?c4p ?c5p ?_)
          (try case c1p => exact news_at_of _ _ _ (by go_size))
          (try case c2p => first | exact List.all_eq_true.1 rfl | rfl)
          (try case c3p => (unfold maxLen; omega))
          (try case c4p => omega)
          (try case c5p => (first | go_size | (simp; omega)))
          intro v' wp hownp hgp _
          obtain ⟨ap, cp, rfl⟩ := own_shape hownp
          obtain ⟨hBp, hsp⟩ := below_app hBa HOa.out (by omega) (by omega) hgp
          have HGp := hide hgp; clear hgp
          go_wp2
          go_roundw
          case rel => exact ⟨m + 1, _, _, M + 1, by omega, by go_num, rfl, by rw [HS.out, if_pos trivial, List.length_append, HM.out]; rfl, by rw [HS.out, if_pos trivial]; simpa [ints] using hownp, hBp, by omega⟩
          case measure => simp [intOf]; omega
      · obtain rfl : n = m := by omega
        have HO := hide hown
        obtain rfl : M = N := by rw [← hM, ← HN.out, HP.out]
        clear hown hM
        go_wp2_with fail
        go_ret
        exact ⟨_, _, rfl, by rw [HP.out]; exact own_base HO.out (by omega), hBr⟩
set_option maxRecDepth 100000 in
set_option maxHeartbeats 1000000 in
theorem spec_Poisoned (g : Ge) (A : Ar) (w : World) (N : Nat) (hN : (poisL g A.con).length = N) (hA : IsAr w A) (ht : A.tot ≤ 1048576) :
    Calls Try.prog 11 #[.agg #[.int .i64 g.gr, .int .i64 g.bk, .int .i64 g.rw, .int .i64 g.cl], .agg #[.slice A.a A.n A.c, .slice A.ag.1.a A.ag.1.n A.ag.1.c, .slice A.ht.1.a A.ht.1.n A.ht.1.c]] w (FreshP w N (poisL g A.con)) := by
  obtain ⟨i0_int, hi_int, hz0_int, hz1_int, hz2_int⟩ := info_parts info_int
  obtain ⟨a, n, c, es, ⟨⟨a2, n2, c2⟩, z2⟩, ⟨⟨a3, n3, c3⟩, z3⟩⟩ := A
  have HA := hide hA; have HT := hide ht; have HN := hide hN
  have hn1 : n ≤ 1048576 := by simp only [Ar.tot] at ht; omega
  have hc1 : n ≤ c := hA.1.1.2.1
  have hm1 : c ≤ 9223372036854775807 := hA.1.1.2.2.1
  have HC := hide HA.out.1.1
  have HY := hide (AoS.start0 w g a a2 a3 n c n2 c2 n3 c3 30 34)
  have HO1 := hide (own_made_at (w := ((w.alloc (.cells #[.int .i64 g.gr, .int .i64 g.bk, .int .i64 g.rw, .int .i64 g.cl] 30)).alloc (.cells #[.slice a n c, .slice a2 n2 c2, .slice a3 n3 c3] 34))) (base := w.heap.size + 1 + 1) (b := w.heap.size + 1 + 1) (e := 3) (size := 1) (by simp) (by simp))
  clear ht hN hA
  obtain ⟨v, hok⟩ : ∃ v, arOk g (⟨a, n, c, es, ⟨⟨a2, n2, c2⟩, z2⟩, ⟨⟨a3, n3, c3⟩, z3⟩⟩ : Ar).con = v := ⟨_, rfl⟩
  have HOK := hide hok
  clear hok
  go_enter Try.func11, Try.ntmps11
  go_wp2_with fail
  go_loopw [5, 6] (fun vo vi wr => ∃ (m : Nat) (a' : Option Addr) (c' M : Nat), m ≤ n ∧ (v = false → m = 0) ∧ vi = .int .i64 m ∧ vo = .slice a' M c' ∧ (poisTo (es.map conC) m).length = M ∧ wr.ownsRow (w.heap.size + 1 + 1) 3 1 (.slice a' M c') M ((ints (poisTo (es.map conC) m)).map (.int .i64)) ∧ AoS w g a a2 a3 n c n2 c2 n3 c3 wr) (fun _ vi _ => n - (intOf vi).toNat)
  case atStart => exact ⟨0, _, _, 0, by omega, fun _ => rfl, rfl, rfl, rfl, HO1.out, HY.out.next (Below.alloc (Below.refl _ _) (Nat.le_refl _) _)⟩
  case round =>
    clear HO1 HY
    obtain ⟨m, a', c', M, hmn, hv0, rfl, rfl, hM, hown, hAo⟩ := hrel
    have HAo := hide hAo
    obtain ⟨g0, g1, g2, g3, b0, b1, b2, hsz, hBr⟩ := hAo
    have HAr := hide (HA.out.below hBr (Nat.le_refl _))
    have HO := hide hown; have HM := hide hM
    clear hown hM
    cases v
    · obtain rfl : m = 0 := hv0 rfl
      have HP : Hid (poisL g (⟨a, n, c, es, ⟨⟨a2, n2, c2⟩, z2⟩, ⟨⟨a3, n3, c3⟩, z3⟩⟩ : Ar).con = []) := hide (by unfold poisL; rw [if_neg (by rw [HOK.out]; simp)])
      obtain rfl : M = 0 := by rw [← HM.out]; rfl
      obtain rfl : N = 0 := by rw [← HN.out, HP.out]; rfl
      clear hv0
      go_wp2_with fail
      refine (spec_ArrayOk g ⟨a, n, c, es, ⟨⟨a2, n2, c2⟩, z2⟩, ⟨⟨a3, n3, c3⟩, z3⟩⟩ false _ HOK.out HAr.out HT.out).mono ?_
      rintro e w1 ⟨rfl, h1⟩
      have HO2 := hide (own_below HO.out h1 (fun k hk => (HO.out.lt k hk).2))
      have hB2 := bthen hBr h1 hBr.size
      go_wp2_with fail
      go_ret
      exact ⟨_, _, rfl, by rw [HP.out]; exact own_base HO2.out (by omega), hB2⟩
    · have HP : Hid (poisL g (⟨a, n, c, es, ⟨⟨a2, n2, c2⟩, z2⟩, ⟨⟨a3, n3, c3⟩, z3⟩⟩ : Ar).con = poisTo (es.map conC) n) := hide (by unfold poisL; rw [if_pos HOK.out]; simp only [Ar.con, List.length_map]; rw [HA.out.1.1.1])
      clear hv0
      go_wp2_with fail
      refine (spec_ArrayOk g ⟨a, n, c, es, ⟨⟨a2, n2, c2⟩, z2⟩, ⟨⟨a3, n3, c3⟩, z3⟩⟩ true _ HOK.out HAr.out HT.out).mono ?_
      rintro e w1 ⟨rfl, h1⟩
      have HO2 := hide (own_below HO.out h1 (fun k hk => (HO.out.lt k hk).2))
      have hB2 := bthen hBr h1 hBr.size
      have HA2 := hide (HAo.out.next h1)
      obtain ⟨_, _, _, _, d0, d1, d2, hsz2, _⟩ := HAo.out.next h1
      have hs2 := h1.size
      by_cases hlt : m < n
      · obtain ⟨e, be, oe, he, rfl, hlb, hcell⟩ := HC.out.get clF_len (by omega) hlt
        have e0 : w1.cell? ⟨be, oe + m * 2, none⟩ = some (.slice e.h.a e.h.n e.h.c) := (hB2.cell (p := ⟨be, oe + (m * 2 + 0), none⟩) hlb).trans (hcell 0 _ rfl)
        have e1 : w1.cell? ⟨be, oe + m * 2 + 1, none⟩ = some (.bool e.p) := (hB2.cell (p := ⟨be, oe + (m * 2 + 1), none⟩) hlb).trans (hcell 1 _ rfl)
        have hpe : ((es.map conC).getD m ([], false)).2 = e.p := by rw [List.getD_eq_getElem?_getD, List.getElem?_map, he]; rfl
        have HS := hide (poisTo_succ (es.map conC) m)
        rw [hpe] at HS
        have hMm := poisTo_len (es.map conC) m
        have i0 : (0 : Int) ≤ (m : Int) := by omega
        have i1 : (m : Int) < (n : Int) := by omega
        clear hcell he hpe
        cases hp : e.p
        · rw [hp] at e1 HS
          go_wp2_with fail
          go_roundw
          case rel => exact ⟨m + 1, _, _, M, by omega, (fun h => by cases h), by go_num, rfl, by rw [HS.out]; exact HM.out, by rw [HS.out]; exact HO2.out, HA2.out⟩
          case measure => simp [intOf]; omega
        · rw [hp] at e1 HS
          rw [HM.out] at hMm
          have hB2' : Below (w.heap.size + 1 + 1) w1 w1 := Below.refl _ _
          go_wp2_with (at_builtin; refine wpList_append_own _ rfl _ _ 25 rfl (w.heap.size + 1 + 1) 3 i0_int (.int .i64 0) 1 8 Try.underlying25 hi_int hz0_int hz1_int hz2_int rfl (by decide) _ _ _ rfl (HO2.out.alloc _) ⟨w1.heap.size, 0, none⟩ 1 1 [.int .i64 (m : Nat)] rfl rfl ?c1p ?c2p ?c3p ?c4p ?c5p ?_)
          (try case c1p => exact news_at_of _ _ _ (by go_size))
          (try case c2p => first | exact List.all_eq_true.1 rfl | rfl)
          (try case c3p => (unfold maxLen; omega))
          (try case c4p => omega)
          (try case c5p => (first | go_size | (simp; omega)))
          intro v' wp hownp hgp _
          obtain ⟨ap, cp, rfl⟩ := own_shape hownp
          obtain ⟨hBp, hsp⟩ := below_app hB2' HO2.out (by omega) (by omega) hgp
          have HGp := hide hgp; clear hgp
          go_wp2
          go_roundw
          case rel => exact ⟨m + 1, _, _, M + 1, by omega, (fun h => by cases h), by go_num, rfl, by rw [HS.out, if_pos trivial, List.length_append, HM.out]; rfl, by rw [HS.out, if_pos trivial]; simpa [ints] using hownp, HA2.out.nextB hBp⟩
          case measure => simp [intOf]; omega
      · obtain rfl : n = m := by omega
        obtain rfl : M = N := by rw [← HM.out, ← HN.out, HP.out]
        go_wp2_with fail
        go_ret
        exact ⟨_, _, rfl, by rw [HP.out]; exact own_base HO2.out (by omega), hB2⟩
end Go.Proofs.Ytkhcepmileiejaa
