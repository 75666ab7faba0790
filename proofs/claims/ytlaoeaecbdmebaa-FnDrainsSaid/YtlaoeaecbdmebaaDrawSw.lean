/- The drawn drain and its list of counts. -/
import Derived.Test.YtlaoeaecbdmebaaDrawDrain
import Derived.Test.YtlaoeaecbdmebaaSts
set_option linter.unusedSimpArgs false
set_option linter.unusedVariables false
namespace Go.Proofs.Ytlaoeaecbdmebaa
open Go.RowKit Go.ChangeShapes Go.WideShapes Go.ChangeAt Go.Joins Go.Deep
open Go.ChangeMaps (open_string shut_string)

theorem new_cur (a : Option Addr) (n c : Nat) (bs : List Int) (w : World) (N : Nat) (hN : N ≤ w.heap.size) (ha : IsInts .u8 w a n c bs) (hs : n ≤ 1048576) :
    Calls Try.prog 73 #[.slice a n c] w fun e w' => ∃ b, e = .returned (.pointer (some ⟨b, 0, none⟩)) ∧ Cur w a n c b w' ∧ N ≤ b ∧ b < w'.heap.size ∧ Below w.heap.size w w' := by
  refine (spec_l01New a n c bs w ha hs).mono ?_
  rintro e w' ⟨b, rfl, hC, hb⟩
  have hC' := hC
  obtain ⟨_, _, _, _, hB, hwb⟩ := hC'
  exact ⟨b, rfl, hC, by omega, hb, hB⟩
theorem cur_below {w w0 w1 : World} {a : Option Addr} {n c b : Nat} (hC : Cur w0 a n c b w1) (hB : Below w.heap.size w w0) (hs : w.heap.size ≤ w0.heap.size) : Below w.heap.size w w1 := by
  obtain ⟨_, _, _, _, hB', _⟩ := hC
  exact bthen hB hB' hs
theorem cur_ints {w w0 w1 : World} {a : Option Addr} {n c b : Nat} {bs : List Int} (h : IsInts .u8 w a n c bs) (hC : Cur w0 a n c b w1) (hB : Below w.heap.size w w0) : IsInts .u8 w0 a n c bs := h.below hB (Nat.le_refl _)


/-- What the draw of a drain and of its counts leaves: at most nineteen counts, each from 0 to 8. -/
def DrewSw (w : World) (e : Ending) (w' : World) : Prop :=
  ∃ (on : Bool) (lo hi : Int) (m : Nat) (a : Option Addr) (c : Nat) (zs : List Int), e = .returned (.tuple #[.agg #[.bool on, .int .i64 lo, .int .i64 hi], .slice a m c]) ∧ w'.ownsRow w.heap.size 3 1 (.slice a m c) m (zs.map (.int .i64)) ∧ zs.length = m ∧ m ≤ 19 ∧ (∀ z ∈ zs, 0 ≤ z ∧ z ≤ 8) ∧ Below w.heap.size w w'

set_option maxRecDepth 100000 in
set_option maxHeartbeats 1000000 in
theorem spec_DrawDrainSwitches (a : Option Addr) (n c : Nat) (bs : List Int) (w : World) (ha : IsInts .u8 w a n c bs) (hs : n ≤ 1048576) :
    Calls Try.prog 16 #[.slice a n c] w (DrewSw w) := by
  obtain ⟨i0_int, hi_int, hz0_int, hz1_int, hz2_int⟩ := info_parts info_int
  have HA := hide ha
  clear ha
  go_enter Try.func16, Try.ntmps16
  go_wp2_with fail
  refine (new_cur a n c bs _ (w.heap.size + 1) (by simp only [World.size_alloc]; omega) (HA.out.below (B := w.heap.size) (by go_grown) (Nat.le_refl _)) hs).mono ?_
  rintro e w1 ⟨b, rfl, hC1, hwb, hlb, h1⟩
  replace h1 := only_of_below h1 (some b)
  have s1 := h1.size
  try simp only [World.size_alloc, World.size_setCell, World.size_drew, World.heap_drewN] at s1
  have B1_1 := h1
  have z1_0 : w.heap.size < w1.heap.size := by omega
  have q1_0 := fun o => only_cell B1_1 (b := w.heap.size) (o := o) (by go_size) (by omega)
  have f1_0 := fun o => only_free B1_1 (b := w.heap.size) (o := o) (by go_size) (by omega)
  have H1 : World.grownBy w w1 (some b) := only_next (by repeat (first | (with_reducible assumption) | (with_reducible exact only_refl _ _) | (with_reducible refine only_drawn ?_ _) | (with_reducible refine only_drew ?_) | (with_reducible refine only_alloc ?_ _) | (with_reducible refine only_setCell ?_ ?_ _) | omega)) h1
  have C1 := only_cells H1; have F1 := only_frees H1
  have HA0 := hide (cur_ints HA.out hC1 (by go_grown))
  go_wp2_with fail
  refine (spec_l22Any _ a n c b bs _ HA0.out hs (by repeat (first | (with_reducible assumption) | (with_reducible refine Cur.alloc ?_ _) | (with_reducible refine Cur.drawn ?_ _) | (with_reducible refine Cur.drew ?_) | (with_reducible refine Cur.set ?_ ?_ _) | omega))).mono ?_
  rintro e w2 ⟨on, lo, hi', rfl, hC2, h2⟩
  have s2 := h2.size
  try simp only [World.size_alloc, World.size_setCell, World.size_drew, World.heap_drewN] at s2
  have B2_1 := only_next (by first | (with_reducible exact B1_1) | (repeat (first | (with_reducible assumption) | (with_reducible exact B1_1) | (with_reducible exact only_refl _ _) | (with_reducible refine only_drawn ?_ _) | (with_reducible refine only_drew ?_) | (with_reducible refine only_alloc ?_ _) | (with_reducible refine only_setCell ?_ ?_ _) | omega))) h2
  have z2_0 : w.heap.size < w2.heap.size := by omega
  have q2_0 := fun o => only_cell B2_1 (b := w.heap.size) (o := o) (by go_size) (by omega)
  have f2_0 := fun o => only_free B2_1 (b := w.heap.size) (o := o) (by go_size) (by omega)
  have H2 : World.grownBy w w2 (some b) := only_next (by repeat (first | (with_reducible assumption) | (with_reducible exact H1) | (with_reducible exact only_refl _ _) | (with_reducible refine only_drawn ?_ _) | (with_reducible refine only_drew ?_) | (with_reducible refine only_alloc ?_ _) | (with_reducible refine only_setCell ?_ ?_ _) | omega)) h2
  have C2 := only_cells H2; have F2 := only_frees H2
  go_wp2_with fail
  obtain ⟨x2, rfl⟩ : ∃ W : World, W = w2 := ⟨_, rfl⟩
  have hwx : w.heap.size < x2.heap.size := by omega
  have hbx : b < x2.heap.size := by omega
  go_loopw [6, 7] (fun v i wr => ∃ (k : Nat) (a' : Option Addr) (c' : Nat) (zs : List Int), k ≤ 19 ∧ i = .int .i64 k ∧ v = .slice a' k c' ∧ wr.ownsRow (x2.heap.size + 1) 3 1 (.slice a' k c') k (zs.map (.int .i64)) ∧ zs.length = k ∧ (∀ z ∈ zs, 0 ≤ z ∧ z ≤ 8) ∧ Cur (w.alloc (.cells #[.bool false, .int .i64 0, .int .i64 0] 25)) a n c b wr ∧ x2.heap.size < wr.heap.size ∧ wr.heap[x2.heap.size]? = some (.cells #[.bool on, .int .i64 lo, .int .i64 hi'] 25 (0, 0)) ∧ wr.heap[w.heap.size]? = some (.cells #[.bool false, .int .i64 0, .int .i64 0] 25 (0, 0))) (fun _ i _ => 19 - (intOf i).toNat)
  case atStart => exact ⟨0, _, _, [], by omega, rfl, rfl, own_made_at (by simp) (by go_size), rfl, by simp, (by repeat (first | (with_reducible assumption) | (with_reducible refine Cur.alloc ?_ _) | (with_reducible refine Cur.drawn ?_ _) | (with_reducible refine Cur.drew ?_) | (with_reducible refine Cur.set ?_ ?_ _) | omega)), by go_size, by rw [alloc_lt _ _ _ (by simp), alloc_at _ _ _ rfl], by rw [alloc_lt _ _ _ (by simp; omega), alloc_lt _ _ _ (by omega), B2_1.block _ (by simp) (by simp; omega), alloc_at _ _ _ rfl]⟩
  case round =>
    obtain ⟨k, a', c', zs, hk, rfl, rfl, hown, hzl, hzb, hC, hsz, he0, he1⟩ := hrel
    have Hzl := hide hzl; have Hzb := hide hzb; have HO := hide hown; have HE0 := hide he0; have HE1 := hide he1
    clear hzl hzb hown he0 he1
    go_wp2_with fail
    refine (spec_l01Below _ a n c b bs _ 20 HA0.out hs (by omega) hC).mono ?_
    rintro e y1 ⟨x, hx0, hx1, rfl, hCy, hgy⟩
    have HOy := hide (HO.out.kept hgy (own_ne HO.out (by omega)))
    have hsy := hgy.size
    have Hy0 := hide ((hgy.block x2.heap.size (by omega) (by simp; omega)).trans HE0.out)
    have Hy1 := hide ((hgy.block w.heap.size (by omega) (by simp; omega)).trans HE1.out)
    clear HE0 HE1 HO hC
    by_cases hlt : (k : Int) < x
    · go_wp2_with fail
      refine (spec_l01Below _ a n c b bs _ 9 HA0.out hs (by omega) hCy).mono ?_
      rintro e z1 ⟨z, hz0, hz1, rfl, hCz, hgz⟩
      have HOz := hide (HOy.out.kept hgz (own_ne HOy.out (by omega)))
      have hsz1 := hgz.size
      have Hz0 := hide ((hgz.block x2.heap.size (by omega) (by simp; omega)).trans Hy0.out)
      have Hz1 := hide ((hgz.block w.heap.size (by omega) (by simp; omega)).trans Hy1.out)
      clear Hy0 Hy1 HOy hCy
      have hBz : Below w.heap.size w z1 := cur_below hCz (by go_grown) (by simp)
      have HCz := hide hCz; clear hCz
      go_wp2_with (at_builtin; refine wpList_append_own _ rfl _ _ 26 rfl (x2.heap.size + 1) 3 i0_int (.int .i64 0) 1 8 Try.underlying26 hi_int hz0_int hz1_int hz2_int rfl (by decide) _ _ _ rfl (HOz.out.alloc _) ⟨z1.heap.size, 0, none⟩ 1 1 [.int .i64 z] rfl rfl ?c1 ?c2 ?c3 ?c4 ?c5 ?_)
      case c1 => exact news_at_of _ _ _ (by go_size)
      case c2 => exact List.all_eq_true.1 rfl
      case c3 => unfold maxLen; omega
      case c4 => omega
      case c5 => (first | go_size | (simp; omega))
      intro v' wp hownp hgp _
      obtain ⟨ap, cp, rfl⟩ := own_shape hownp
      obtain ⟨hBp, hsp⟩ := below_app hBz HOz.out (by omega) (by omega) hgp
      have HGp := hide hgp; clear hgp
      have hCp := HCz.out.app HOz.out (by omega) HGp.out
      have Hp0 := app_block HOz.out HGp.out (by omega) (by omega) Hz0.out
      have Hp1 := app_block HOz.out HGp.out (by omega) (by omega) Hz1.out
      go_wp2
      go_roundw
      case rel => exact ⟨k + 1, _, _, zs ++ [z], by omega, by go_num, rfl, by simpa using hownp, by simp [Hzl.out], by intro u hu; simp at hu; rcases hu with hu | rfl; exact Hzb.out u hu; omega, hCp, by omega, Hp0, Hp1⟩
      case measure => simp [intOf]; omega
    · have c0 := cell_blk Hy0.out 0; have c1 := cell_blk Hy0.out 1; have c2 := cell_blk Hy0.out 2; have d0 := cell_blk Hy1.out 0; have d1 := cell_blk Hy1.out 1; have d2 := cell_blk Hy1.out 2; have f1 := fun o => free_blk Hy1.out o
      have hBy : Below w.heap.size w y1 := cur_below hCy (by go_grown) (by simp)
      have n1 : ¬ w.heap.size = x2.heap.size := by omega
      have n2 : ¬ x2.heap.size = w.heap.size := by omega
      clear hCy
      go_wp2_with fail
      refine bodyPost_ret (by simp [results, Try.results16, go_sem, *]; try rfl) rfl ?_
      exact ⟨on, lo, hi', k, _, _, zs, rfl, own_base (own_set (own_set (own_set HOy.out (by omega) _) (by omega) _) (by omega) _) (by omega), Hzl.out, hk, Hzb.out, (by repeat' (first | (with_reducible exact Below.refl _ _) | (with_reducible assumption) | (with_reducible refine bdrawn ?_ _) | (with_reducible refine Below.alloc ?_ ?_ _) | (with_reducible refine Below.drew ?_) | (with_reducible refine Below.setCell ?_ ?_ _) | go_size))⟩
end Go.Proofs.Ytlaoeaecbdmebaa
