/- A drawn array and a drawn word, as a law draws them. -/
import Derived.Test.YtkhcepmileiejaaCase
set_option linter.unusedSimpArgs false
set_option linter.unusedVariables false
namespace Go.Proofs.Ytkhcepmileiejaa
open Go.RowKit Go.ChangeShapes Go.WideShapes Go.ChangeAt Go.Joins Go.Deep
open Go.ChangeMaps (open_string shut_string)
theorem new_cur (a : Option Addr) (n c : Nat) (bs : List Int) (w : World) (N : Nat) (hN : N ≤ w.heap.size) (ha : IsInts .u8 w a n c bs) (hs : n ≤ 1048576) :
    Calls Try.prog 62 #[.slice a n c] w fun e w' => ∃ b, e = .returned (.pointer (some ⟨b, 0, none⟩)) ∧ Cur w a n c b w' ∧ N ≤ b ∧ b < w'.heap.size ∧ Below w.heap.size w w' := by
  refine (spec_l01New a n c bs w ha hs).mono ?_
  rintro e w' ⟨b, rfl, hC, hb⟩
  have hC' := hC
  obtain ⟨_, _, _, _, hB, hwb⟩ := hC'
  exact ⟨b, rfl, hC, by omega, hb, hB⟩
theorem cur_below {w w0 w1 : World} {a : Option Addr} {n c b : Nat} (hC : Cur w0 a n c b w1) (hB : Below w.heap.size w w0) (hs : w.heap.size ≤ w0.heap.size) : Below w.heap.size w w1 := by
  obtain ⟨_, _, _, _, hB', _⟩ := hC
  exact bthen hB hB' hs
def DrewArr (w : World) (e : Ending) (w' : World) : Prop :=
  ∃ (g : Ge) (l1 l2 : Int) (A : Ar), geoOk g = true ∧ e = .returned (.tuple #[.agg #[.int .i64 g.gr, .int .i64 g.bk, .int .i64 g.rw, .int .i64 g.cl], .agg #[.int .i64 l1, .int .i64 l2], .agg #[.slice A.a A.n A.c, .slice A.ag.1.a A.ag.1.n A.ag.1.c, .slice A.ht.1.a A.ht.1.n A.ht.1.c]]) ∧ OwnAr w.heap.size w'.heap.size w' A ∧ arOk g A.con = true ∧ Below w.heap.size w w'
set_option maxRecDepth 100000 in
set_option maxHeartbeats 4000000 in
theorem spec_DrawArray (a : Option Addr) (n c : Nat) (bs : List Int) (w : World) (ha : IsInts .u8 w a n c bs) (hs : n ≤ 1048576) :
    Calls Try.prog 31 #[.slice a n c] w (DrewArr w) := by
  have HA := hide ha
  clear ha
  have m0 : (((w.alloc (.cells #[.int .i64 0, .int .i64 0, .int .i64 0, .int .i64 0] 30)).alloc (.cells #[.int .i64 0, .int .i64 0] 57)).alloc (.cells #[.slice none 0 0, .slice none 0 0, .slice none 0 0] 34)).heap[w.heap.size]? = some (.cells #[.int .i64 0, .int .i64 0, .int .i64 0, .int .i64 0] 30 (0, 0)) := by rw [alloc_lt _ _ _ (by simp; try omega), alloc_lt _ _ _ (by simp; try omega)]; exact alloc_at _ _ _ (by simp)
  have m1 : (((w.alloc (.cells #[.int .i64 0, .int .i64 0, .int .i64 0, .int .i64 0] 30)).alloc (.cells #[.int .i64 0, .int .i64 0] 57)).alloc (.cells #[.slice none 0 0, .slice none 0 0, .slice none 0 0] 34)).heap[w.heap.size + 1]? = some (.cells #[.int .i64 0, .int .i64 0] 57 (0, 0)) := by rw [alloc_lt _ _ _ (by simp; try omega)]; exact alloc_at _ _ _ (by simp)
  have m2 : (((w.alloc (.cells #[.int .i64 0, .int .i64 0, .int .i64 0, .int .i64 0] 30)).alloc (.cells #[.int .i64 0, .int .i64 0] 57)).alloc (.cells #[.slice none 0 0, .slice none 0 0, .slice none 0 0] 34)).heap[w.heap.size + 1 + 1]? = some (.cells #[.slice none 0 0, .slice none 0 0, .slice none 0 0] 34 (0, 0)) := alloc_at _ _ _ (by simp)
  have hB0 : Below w.heap.size w (((w.alloc (.cells #[.int .i64 0, .int .i64 0, .int .i64 0, .int .i64 0] 30)).alloc (.cells #[.int .i64 0, .int .i64 0] 57)).alloc (.cells #[.slice none 0 0, .slice none 0 0, .slice none 0 0] 34)) := by go_grown
  have hsW : w.heap.size + 3 ≤ (((w.alloc (.cells #[.int .i64 0, .int .i64 0, .int .i64 0, .int .i64 0] 30)).alloc (.cells #[.int .i64 0, .int .i64 0] 57)).alloc (.cells #[.slice none 0 0, .slice none 0 0, .slice none 0 0] 34)).heap.size := by simp
  go_enter Try.func31, Try.ntmps31
  go_wp2_with fail
  generalize (((w.alloc (.cells #[.int .i64 0, .int .i64 0, .int .i64 0, .int .i64 0] 30)).alloc (.cells #[.int .i64 0, .int .i64 0] 57)).alloc (.cells #[.slice none 0 0, .slice none 0 0, .slice none 0 0] 34)) = W at *
  have HAW := hide (HA.out.below hB0 (Nat.le_refl _))
  refine (new_cur a n c bs _ W.heap.size (Nat.le_refl _) HAW.out hs).mono ?_
  rintro ex v1 ⟨b, rfl, hC1, hwb, hlb, hB1⟩
  have s1 := hB1.size
  replace m0 := blk_below hB1 m0 (by omega); replace m1 := blk_below hB1 m1 (by omega); replace m2 := blk_below hB1 m2 (by omega)
  have HM := hide (And.intro m0 (And.intro m1 m2))
  clear m0 m1 m2 hB1
  go_wp2_with fail
  refine (spec_l14Case W a n c b bs _ HAW.out hs hC1).mono ?_
  rintro ex v2 ⟨g, l1, l2, A, hg, rfl, oA, okA, hC2, hg2⟩
  have s2 := hg2.size
  obtain ⟨m0, m1, m2⟩ := HM.out
  replace m0 := blk_grow hg2 m0 (by omega); replace m1 := blk_grow hg2 m1 (by omega); replace m2 := blk_grow hg2 m2 (by omega)
  have hB2 := cur_below hC2 hB0 (by omega)
  have r00 := cell_blk m0 0; have r01 := cell_blk m0 1; have r02 := cell_blk m0 2; have r03 := cell_blk m0 3; have r0f := fun o => free_blk m0 o
  have r10 := cell_blk m1 0; have r11 := cell_blk m1 1; have r1f := fun o => free_blk m1 o
  have r20 := cell_blk m2 0; have r21 := cell_blk m2 1; have r22 := cell_blk m2 2; have r2f := fun o => free_blk m2 o
  have z0 := lt_blk m0; have z1 := lt_blk m1; have z2 := lt_blk m2
  have l0 : w.heap.size < v1.heap.size := by omega
  have l1' : w.heap.size + 1 < v1.heap.size := by omega
  have l2' : w.heap.size + 1 + 1 < v1.heap.size := by omega
  have hO : OwnAr w.heap.size (((((((((v2.setCell ⟨w.heap.size, 0, none⟩ (.int .i64 g.gr)).setCell ⟨w.heap.size, 1, none⟩ (.int .i64 g.bk)).setCell ⟨w.heap.size, 2, none⟩ (.int .i64 g.rw)).setCell ⟨w.heap.size, 3, none⟩ (.int .i64 g.cl)).setCell ⟨w.heap.size + 1, 0, none⟩ (.int .i64 l1)).setCell ⟨w.heap.size + 1, 1, none⟩ (.int .i64 l2)).setCell ⟨w.heap.size + 1 + 1, 0, none⟩ (.slice A.a A.n A.c)).setCell ⟨w.heap.size + 1 + 1, 1, none⟩ (.slice A.ag.1.a A.ag.1.n A.ag.1.c)).setCell ⟨w.heap.size + 1 + 1, 2, none⟩ (.slice A.ht.1.a A.ht.1.n A.ht.1.c)).heap.size (((((((((v2.setCell ⟨w.heap.size, 0, none⟩ (.int .i64 g.gr)).setCell ⟨w.heap.size, 1, none⟩ (.int .i64 g.bk)).setCell ⟨w.heap.size, 2, none⟩ (.int .i64 g.rw)).setCell ⟨w.heap.size, 3, none⟩ (.int .i64 g.cl)).setCell ⟨w.heap.size + 1, 0, none⟩ (.int .i64 l1)).setCell ⟨w.heap.size + 1, 1, none⟩ (.int .i64 l2)).setCell ⟨w.heap.size + 1 + 1, 0, none⟩ (.slice A.a A.n A.c)).setCell ⟨w.heap.size + 1 + 1, 1, none⟩ (.slice A.ag.1.a A.ag.1.n A.ag.1.c)).setCell ⟨w.heap.size + 1 + 1, 2, none⟩ (.slice A.ht.1.a A.ht.1.n A.ht.1.c)) A := ((((((((((oA.set_off (.inl l0) _).set_off (.inl l0) _).set_off (.inl l0) _).set_off (.inl l0) _).set_off (.inl l1') _).set_off (.inl l1') _).set_off (.inl l2') _).set_off (.inl l2') _).set_off (.inl l2') _)).wide (by omega) (by simp)
  have hBe : Below w.heap.size w (((((((((v2.setCell ⟨w.heap.size, 0, none⟩ (.int .i64 g.gr)).setCell ⟨w.heap.size, 1, none⟩ (.int .i64 g.bk)).setCell ⟨w.heap.size, 2, none⟩ (.int .i64 g.rw)).setCell ⟨w.heap.size, 3, none⟩ (.int .i64 g.cl)).setCell ⟨w.heap.size + 1, 0, none⟩ (.int .i64 l1)).setCell ⟨w.heap.size + 1, 1, none⟩ (.int .i64 l2)).setCell ⟨w.heap.size + 1 + 1, 0, none⟩ (.slice A.a A.n A.c)).setCell ⟨w.heap.size + 1 + 1, 1, none⟩ (.slice A.ag.1.a A.ag.1.n A.ag.1.c)).setCell ⟨w.heap.size + 1 + 1, 2, none⟩ (.slice A.ht.1.a A.ht.1.n A.ht.1.c)) := (Below.setCell (Below.setCell (Below.setCell (Below.setCell (Below.setCell (Below.setCell (Below.setCell (Below.setCell (Below.setCell hB2 (p := ⟨w.heap.size, _, none⟩) (by simp only; omega) _) (p := ⟨w.heap.size, _, none⟩) (by simp only; omega) _) (p := ⟨w.heap.size, _, none⟩) (by simp only; omega) _) (p := ⟨w.heap.size, _, none⟩) (by simp only; omega) _) (p := ⟨w.heap.size + 1, _, none⟩) (by simp only; omega) _) (p := ⟨w.heap.size + 1, _, none⟩) (by simp only; omega) _) (p := ⟨w.heap.size + 1 + 1, _, none⟩) (by simp only; omega) _) (p := ⟨w.heap.size + 1 + 1, _, none⟩) (by simp only; omega) _) (p := ⟨w.heap.size + 1 + 1, _, none⟩) (by simp only; omega) _)
  have HG := hide hg; have HOK := hide okA; have HO := hide hO; have HBE := hide hBe
  clear HM m0 m1 m2 hC1 hC2 hg2 hO hBe hg okA oA hB2 hB0 hsW
  go_wp2_with fail
  refine bodyPost_ret (by simp [results, Try.results31, go_sem, *]; try rfl) rfl ?_
  exact ⟨g, l1, l2, A, HG.out, rfl, HO.out, HOK.out, HBE.out⟩
theorem spec_DrawWord (a : Option Addr) (n c : Nat) (bs : List Int) (w : World) (ha : IsInts .u8 w a n c bs) (hs : n ≤ 1048576) :
    Calls Try.prog 35 #[.slice a n c] w fun e w' => ∃ x : Int, 0 ≤ x ∧ x ≤ 4294967295 ∧ e = .returned (.int .i64 x) ∧ Below w.heap.size w w' := by
  have HA := hide ha
  clear ha
  go_enter Try.func35, Try.ntmps35
  go_wp2_with fail
  refine (new_cur a n c bs _ w.heap.size (Nat.le_refl _) HA.out hs).mono ?_
  rintro ex v1 ⟨b, rfl, hC1, hwb, hlb, hB1⟩
  clear hB1
  go_wp2_with fail
  refine (spec_l02Word w a n c b bs _ HA.out hs hC1).mono ?_
  rintro ex v2 ⟨x, h0, h1, rfl, hC2, hg2⟩
  have hB2 := cur_below hC2 (Below.refl _ _) (Nat.le_refl _)
  go_wp2_with fail
  refine bodyPost_ret (by simp [results, Try.results35, go_sem, *]; try rfl) rfl ?_
  exact ⟨x, h0, h1, rfl, hB2⟩
end Go.Proofs.Ytkhcepmileiejaa
