/- A rank whose banks are all closed: its making, what it may and does. -/
import Derived.Test.YtahfbhfmhccgoaaTrc1
import Derived.Test.YtahfbhfmhccgoaaAddrT
import Derived.Test.YtahfbhfmhccgoaaSts
import Derived.Deep.RegionHeld3
set_option linter.unusedSimpArgs false
set_option linter.unusedVariables false
namespace Go.Proofs.Ytahfbhfmhccgoaa
open Go.RowKit Go.ChangeShapes Go.WideShapes Go.ChangeAt Go.Joins Go.Deep
open Go.ChangeMaps (open_string shut_string)
set_option maxRecDepth 100000 in
set_option maxHeartbeats 2000000 in
theorem spec_CommandOk (g : Ge) (k b : Int) (w : World) (hg : geoOk g = true) (h : NoRow g k b) :
    Calls Try.prog 113 #[.agg #[.int .i64 g.gr, .int .i64 g.bk, .int .i64 g.rw, .int .i64 g.cl], .agg #[.int .i64 k, .int .i64 b, .int .i64 0, .int .i64 0]] w fun e w' => e = .returned (.bool true) ∧ Below w.heap.size w w' := by
  have hbd := bank_bd hg
  have hbc : bankCnt g = g.gr * g.bk := by unfold bankCnt; rw [hg]; rfl
  have hgb := geoOk_bd hg
  have hb : adOk g ⟨b, 0, 0⟩ = true := by
    unfold adOk
    simp only [Bool.and_eq_true]
    exact ⟨btw_mk (by rcases h with ⟨_, h1, h2⟩ | ⟨_, h1⟩ <;> omega) (by rcases h with ⟨_, h1, h2⟩ | ⟨_, h1⟩ <;> omega), btw_mk (by omega) (by omega), btw_mk (by omega) (by omega)⟩
  have HB := hide hb; have HN := hide h
  clear hbd hbc hgb hb h
  go_enter Try.func113, Try.ntmps113
  go_wp2_with fail
  refine (spec_l06Form g k b _ HN.out).mono ?_
  rintro e w1 ⟨rfl, h1⟩
  have hc := (bcell h1).1
  have c0 := (hc w.heap.size 0 (by simp only [World.size_alloc]; omega)).trans (show _ = some (.int .i64 g.gr) by simp [go_sem])
  have c1 := (hc w.heap.size 1 (by simp only [World.size_alloc]; omega)).trans (show _ = some (.int .i64 g.bk) by simp [go_sem])
  have c2 := (hc w.heap.size 2 (by simp only [World.size_alloc]; omega)).trans (show _ = some (.int .i64 g.rw) by simp [go_sem])
  have c3 := (hc w.heap.size 3 (by simp only [World.size_alloc]; omega)).trans (show _ = some (.int .i64 g.cl) by simp [go_sem])
  have d1 := (hc (w.heap.size + 1) 1 (by simp only [World.size_alloc]; omega)).trans (show _ = some (.int .i64 b) by simp [go_sem])
  have d2 := (hc (w.heap.size + 1) 2 (by simp only [World.size_alloc]; omega)).trans (show _ = some (.int .i64 0) by simp [go_sem])
  have d3 := (hc (w.heap.size + 1) 3 (by simp only [World.size_alloc]; omega)).trans (show _ = some (.int .i64 0) by simp [go_sem])
  have H1 := hide (show Below w.heap.size w w1 from bthen (by go_grown) h1 (by simp only [World.size_alloc]; omega))
  clear hc h1
  go_wp2_with fail
  refine (spec_AddrOk g ⟨b, 0, 0⟩ true _ HB.out).mono ?_
  rintro e w2 ⟨rfl, h2⟩
  go_wp2_with fail
  go_ret
  exact ⟨rfl, bthen H1.out h2 H1.out.size⟩
structure Bk where
  opn : Bool
  row : Int
def bkF (e : Bk) : List Value := [.bool e.opn, .int .i64 e.row]
theorem bkF_len (e : Bk) : (bkF e).length = 2 := rfl
theorem info_Bk : (Try.prog.info? 165).map (fun i => (i.zero, i.size, i.bytes)) = some (some (.agg #[.bool false, .int .i64 0]), 2, 16) := by kernel_rfl
theorem shut_flat (n : Nat) : (List.replicate n [Value.bool false, Value.int .i64 0]).flatten = (List.replicate n (Bk.mk false 0)).flatMap bkF := by
  induction n with
  | zero => rfl
  | succ n ih => rw [List.replicate_succ, List.flatten_cons, ih, List.replicate_succ, List.flatMap_cons]; rfl
/-- The rank's banks: n closed ones. -/
def Shut (w : World) (base : Nat) (a : Option Addr) (n c : Nat) : Prop := w.ownsRow base 165 2 (.slice a n c) n ((List.replicate n (Bk.mk false 0)).flatMap bkF)
set_option maxRecDepth 100000 in
set_option maxHeartbeats 800000 in
theorem spec_RankNew (g : Ge) (n : Nat) (w : World) (hn : bankCnt g = (n : Int)) :
    Calls Try.prog 112 #[.agg #[.int .i64 g.gr, .int .i64 g.bk, .int .i64 g.rw, .int .i64 g.cl]] w fun e w' => ∃ a c, e = .returned (.agg #[.slice a n c, .int .i64 0]) ∧ Shut w' w.heap.size a n c ∧ Below w.heap.size w w' := by
  obtain ⟨i0_Bk, hi_Bk, hz0_Bk, hz1_Bk, hz2_Bk⟩ := info_parts info_Bk
  have hb := bankCnt_bd g
  have n0 : (0 : Int) ≤ (n : Int) := by omega
  have n8 : (n : Int) ≤ 8 := by omega
  clear hb
  go_enter Try.func112, Try.ntmps112
  go_wp2_with fail
  refine (spec_BankCount_is g (n : Int) hn _).mono ?_
  rintro e w1 ⟨rfl, h1⟩
  have k1 : w1.heap[w.heap.size + 1]? = some (.cells #[.slice none 0 0, .int .i64 0] 143 (0, 0)) := (h1.block _ (by simp)).trans (alloc_at _ _ _ (by simp))
  have hB1 : Below w.heap.size w w1 := bthen (by go_grown) h1 (by simp; omega)
  have K1 := hide k1; have HB1 := hide hB1
  have s1 := hB1.size; have s1b := lt_blk k1
  clear h1 k1 hB1
  go_wp2_with (at_make; go_loud (refine wpList_make_full _ rfl _ _ 141 rfl w1.heap.size 165 i0_Bk _ 2 Try.underlying141 hi_Bk hz0_Bk hz1_Bk _ _ _ _ n rfl rfl rfl rfl (by rw [hz2_Bk]; omega) (by unfold maxLen; omega) (Nat.le_refl _) ?_; intro w5 hown5 hg5; have K5 := hide ((hg5.block _ s1b (by simp)).trans K1.out); have e50 := cell_blk K5.out 0; have e51 := cell_blk K5.out 1; have HB5 := hide (show Below w.heap.size w w5 from HB1.out.grown hg5 s1 (fun k h => by cases h)); have HO5 := hide hown5; clear hown5 hg5; have l5 := lt_blk K5.out; have f50 : w5.frozen? ⟨w.heap.size + 1, 0, none⟩ = false := (by simp [World.frozen?, K5.out]); have f51 : w5.frozen? ⟨w.heap.size + 1, 1, none⟩ = false := (by simp [World.frozen?, K5.out])))
  have h2 := HO5.out
  rw [made_row (sz := 2) _ rfl, show (Value.agg #[.bool false, .int .i64 0]).cells.toList = [.bool false, .int .i64 0] from rfl, shut_flat] at h2
  have hne := own_ne h2 (b := w.heap.size + 1) (by omega)
  have hSh := hide (own_base ((h2.kept (only_set (o := 0) (only_refl _ _) (.slice (some ⟨w1.heap.size, 0, none⟩) n n)) hne).kept (only_set (o := 1) (only_refl _ _) (.int .i64 0)) hne) s1)
  have hBel := hide ((HB5.out.setCell (p := ⟨w.heap.size + 1, 0, none⟩) (by simp) (.slice (some ⟨w1.heap.size, 0, none⟩) n n)).setCell (p := ⟨w.heap.size + 1, 1, none⟩) (by simp) (.int .i64 0))
  have K6 : ((w5.setCell ⟨w.heap.size + 1, 0, none⟩ (.slice (some ⟨w1.heap.size, 0, none⟩) n n)).setCell ⟨w.heap.size + 1, 1, none⟩ (.int .i64 0)).heap[w.heap.size + 1]? = some (.cells #[.slice (some ⟨w1.heap.size, 0, none⟩) n n, .int .i64 0] 143 (0, 0)) := set_lit (set_lit K5.out rfl) rfl
  clear h2 hne
  generalize ((w5.setCell ⟨w.heap.size + 1, 0, none⟩ (.slice (some ⟨w1.heap.size, 0, none⟩) n n)).setCell ⟨w.heap.size + 1, 1, none⟩ (.int .i64 0)) = W6 at *
  have e60 : W6.cell? ⟨w.heap.size + 1, 0, none⟩ = some (.slice (some ⟨w1.heap.size, 0, none⟩) n n) := cell_blk K6 0
  have e61 : W6.cell? ⟨w.heap.size + 1, 1, none⟩ = some (.int .i64 0) := cell_blk K6 1
  clear K6
  refine bodyPost_ret (by simp [results, Try.results112, go_sem, *]; try rfl) rfl ?_
  exact ⟨_, _, rfl, hSh.out, hBel.out⟩
end Go.Proofs.Ytahfbhfmhccgoaa
