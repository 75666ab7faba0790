/- The program's earliest time of a command, and its rule for four activations. -/
import Derived.Test.YtahfbhfmhccgoaaFltG
import Derived.Test.YtahfbhfmhccgoaaInts
import Derived.BigQuiet
set_option linter.unusedSimpArgs false
set_option linter.unusedVariables false
namespace Go.Proofs.Ytahfbhfmhccgoaa
open Go.RowKit Go.ChangeShapes Go.WideShapes Go.ChangeAt Go.Joins Go.Deep
open Go.ChangeMaps (open_string shut_string)
theorem gapG_pos (g : Ge) (t : Tm) (f e : Ev) : 1 ≤ gapG g t f e := by
  unfold gapG; split <;> omega
/-- A command of the kinds 1 to 4 at a bank of the rank. -/
def Frm (g : Ge) (e : Ev) : Prop := (1 ≤ e.kind ∧ e.kind ≤ 4) ∧ (0 ≤ e.bank ∧ e.bank < bankCnt g)
theorem keep_early {W v : World} {t : Tm} {g : Ge} {e f : Ev} {p q : Nat} (kt : W.heap[p + 1]? = some (.cells (tmC t).toArray 73 (0, 0))) (kg : W.heap[p]? = some (.cells #[.int .i64 g.gr, .int .i64 g.bk, .int .i64 g.rw, .int .i64 g.cl] 43 (0, 0))) (ke : W.heap[p + 1 + 1]? = some (.cells #[.int .i64 e.kind, .int .i64 e.bank, .int .i64 e.row, .int .i64 e.col] 91 (0, 0)))
    (kf : W.heap[q]? = some (.cells #[.int .i64 f.tm, .int .i64 f.kind, .int .i64 f.bank, .int .i64 f.row, .int .i64 f.col] 100 (0, 0))) (hb : Below W.heap.size W v) :
    v.heap[p + 1]? = some (.cells (tmC t).toArray 73 (0, 0)) ∧ v.cell? ⟨p, 0, none⟩ = some (.int .i64 g.gr) ∧ v.cell? ⟨p, 1, none⟩ = some (.int .i64 g.bk) ∧ v.cell? ⟨p, 2, none⟩ = some (.int .i64 g.rw) ∧ v.cell? ⟨p, 3, none⟩ = some (.int .i64 g.cl) ∧ v.cell? ⟨p + 1 + 1, 0, none⟩ = some (.int .i64 e.kind) ∧ v.cell? ⟨p + 1 + 1, 1, none⟩ = some (.int .i64 e.bank) ∧ v.cell? ⟨p + 1 + 1, 2, none⟩ = some (.int .i64 e.row) ∧ v.cell? ⟨p + 1 + 1, 3, none⟩ = some (.int .i64 e.col) ∧
    v.cell? ⟨q, 0, none⟩ = some (.int .i64 f.tm) ∧ v.cell? ⟨q, 1, none⟩ = some (.int .i64 f.kind) ∧ v.cell? ⟨q, 2, none⟩ = some (.int .i64 f.bank) ∧ v.cell? ⟨q, 3, none⟩ = some (.int .i64 f.row) ∧ v.cell? ⟨q, 4, none⟩ = some (.int .i64 f.col) ∧ Below W.heap.size W v :=
  have hg := (hb.block p (lt_blk kg)).trans kg
  have he := (hb.block (p + 1 + 1) (lt_blk ke)).trans ke
  have hf := (hb.block q (lt_blk kf)).trans kf
  ⟨(hb.block (p + 1) (lt_blk kt)).trans kt, cell_blk hg 0, cell_blk hg 1, cell_blk hg 2, cell_blk hg 3, cell_blk he 0, cell_blk he 1, cell_blk he 2, cell_blk he 3, cell_blk hf 0, cell_blk hf 1, cell_blk hf 2, cell_blk hf 3, cell_blk hf 4, hb⟩
set_option maxRecDepth 100000 in
set_option maxHeartbeats 4000000 in
theorem impl_earliest (g : Ge) (t : Tm) (a : Option Addr) (n c : Nat) (evs : List Ev) (e : Ev) (T : Int) (w : World) (ha : IsStructs evF 5 w a n c evs) (hg : geoOk g = true) (hok : tmOk t = true) (hn : n ≤ 2000) (he : Frm g e) (hT : 0 ≤ T ∧ T ≤ 1000000)
    (hev : ∀ f ∈ evs, Frm g f ∧ 0 ≤ f.tm ∧ f.tm + gapG g t f e ≤ T) :
    Calls Try.prog 101 #[.agg #[.int .i64 g.gr, .int .i64 g.bk, .int .i64 g.rw, .int .i64 g.cl], .agg (tmC t).toArray, .slice a n c, .agg #[.int .i64 e.kind, .int .i64 e.bank, .int .i64 e.row, .int .i64 e.col]] w fun r w' => ∃ v : Int, r = .returned (.int .i64 v) ∧ v ≤ T ∧ Below w.heap.size w w' := by
  have HA := hide ha; have HEV := hide hev; have HE := hide he
  have T0 := hT.1; have T1 := hT.2
  clear ha hev he hT
  go_enter Try.func101, Try.ntmps101
  go_wp2_with fail
  go_loopw [9, 14] (fun vx i wr => ∃ (k : Nat) (v : Int), k ≤ n ∧ i = .int .i64 k ∧ vx = .int .i64 v ∧ 0 ≤ v ∧ v ≤ T ∧ wr.heap[w.heap.size]? = some (.cells #[.int .i64 g.gr, .int .i64 g.bk, .int .i64 g.rw, .int .i64 g.cl] 43 (0, 0)) ∧ wr.heap[w.heap.size + 1]? = some (.cells (tmC t).toArray 73 (0, 0)) ∧ wr.heap[w.heap.size + 1 + 1]? = some (.cells #[.int .i64 e.kind, .int .i64 e.bank, .int .i64 e.row, .int .i64 e.col] 91 (0, 0)) ∧ Below w.heap.size w wr) (fun _ i _ => n - (intOf i).toNat)
  case atStart => exact ⟨0, 0, by omega, rfl, rfl, by omega, T0, by rw [alloc_lt _ _ _ (by simp only [World.size_alloc]; omega), alloc_lt _ _ _ (by simp only [World.size_alloc]; omega), alloc_at _ _ _ rfl], by rw [alloc_lt _ _ _ (by simp only [World.size_alloc]; omega), alloc_at _ _ _ (by first | rfl | simp only [World.size_alloc])], alloc_at _ _ _ (by first | rfl | simp only [World.size_alloc]), by go_grown⟩
  case round =>
    obtain ⟨k, v, hk, rfl, rfl, v0, v1, kg, kt, ke, hB⟩ := hrel
    have HK := hide (And.intro kg (And.intro kt ke)); have HB := hide hB
    have hs1 := hB.size
    have lke := lt_blk ke
    by_cases hlt : k < n
    · obtain ⟨f, b, o, hh_f, rfl, hlb, hcell⟩ := HA.out.get evF_len (by omega) (show k < n by omega)
      have q0 : wr.cell? ⟨b, o + k * 5, none⟩ = some (.int .i64 f.tm) := (HB.out.cell (p := ⟨b, o + (k * 5 + 0), none⟩) hlb).trans (hcell 0 _ rfl)
      have q1 : wr.cell? ⟨b, o + k * 5 + 1, none⟩ = some (.int .i64 f.kind) := (HB.out.cell (p := ⟨b, o + (k * 5 + 1), none⟩) hlb).trans (hcell 1 _ rfl)
      have q2 : wr.cell? ⟨b, o + k * 5 + 2, none⟩ = some (.int .i64 f.bank) := (HB.out.cell (p := ⟨b, o + (k * 5 + 2), none⟩) hlb).trans (hcell 2 _ rfl)
      have q3 : wr.cell? ⟨b, o + k * 5 + 3, none⟩ = some (.int .i64 f.row) := (HB.out.cell (p := ⟨b, o + (k * 5 + 3), none⟩) hlb).trans (hcell 3 _ rfl)
      have q4 : wr.cell? ⟨b, o + k * 5 + 4, none⟩ = some (.int .i64 f.col) := (HB.out.cell (p := ⟨b, o + (k * 5 + 4), none⟩) hlb).trans (hcell 4 _ rfl)
      have HE_f := hide hh_f
      have sz_f := HB.out.size
      have lt_b : b < wr.heap.size := (by have := HB.out.size; omega)
      have lw_b := hlb
      have i0_f : (0 : Int) ≤ (k : Int) := by omega
      have i1_f : (k : Int) < (n : Int) := by omega
      clear hcell hlb hh_f
      have hf := HEV.out f (List.mem_of_getElem? HE_f.out)
      have hgp := gapG_pos g t f e
      obtain ⟨m, hm⟩ : ∃ m, gapG g t f e = m := ⟨_, rfl⟩
      rw [hm] at hf hgp
      have hf1 := hf.2.1; have hf2 := hf.2.2
      have HFF := hide hf.1; have HM := hide hm
      obtain ⟨x, hx⟩ : ∃ x, max v (f.tm + m) = x := ⟨_, rfl⟩
      have hmx := fun w => run_max2 w v (f.tm + m) x hx
      have wq : IntKind.i64.wrap (f.tm + m) = f.tm + m := IntWalk.i64_in _ (by omega)
      have hx0 : 0 ≤ x := by omega
      have hx1 : x ≤ T := by omega
      clear hf hm hx hgp kg kt ke hB hf1 hf2
      go_upto_region 5 with fail
      have kf : (wr.alloc (.cells #[.int .i64 f.tm, .int .i64 f.kind, .int .i64 f.bank, .int .i64 f.row, .int .i64 f.col] 100)).heap[wr.heap.size]? = some (.cells #[.int .i64 f.tm, .int .i64 f.kind, .int .i64 f.bank, .int .i64 f.row, .int .i64 f.col] 100 (0, 0)) := alloc_at _ _ _ rfl
      have hA8 : Below wr.heap.size wr (wr.alloc (.cells #[.int .i64 f.tm, .int .i64 f.kind, .int .i64 f.bank, .int .i64 f.row, .int .i64 f.col] 100)) := Below.alloc (Below.refl _ _) (Nat.le_refl _) _
      clear q0 q1 q2 q3 q4
      generalize (wr.alloc (.cells #[.int .i64 f.tm, .int .i64 f.kind, .int .i64 f.bank, .int .i64 f.row, .int .i64 f.col] 100)) = W8 at *
      have kg := (hA8.block _ (lt_blk HK.out.1)).trans HK.out.1
      have kt := (hA8.block _ (lt_blk HK.out.2.1)).trans HK.out.2.1
      have ke := (hA8.block _ (lt_blk HK.out.2.2)).trans HK.out.2.2
      have KEEP := hide (fun (v : World) (hb : Below W8.heap.size W8 v) => keep_early kt kg ke kf hb)
      have HA8 := hide hA8
      clear kg kt ke kf hA8
      refine wp_region_held_drew (S := fun v => v.heap[w.heap.size + 1]? = some (.cells (tmC t).toArray 73 (0, 0)) ∧ v.cell? ⟨w.heap.size, 0, none⟩ = some (.int .i64 g.gr) ∧ v.cell? ⟨w.heap.size, 1, none⟩ = some (.int .i64 g.bk) ∧ v.cell? ⟨w.heap.size, 2, none⟩ = some (.int .i64 g.rw) ∧ v.cell? ⟨w.heap.size, 3, none⟩ = some (.int .i64 g.cl) ∧ v.cell? ⟨w.heap.size + 1 + 1, 0, none⟩ = some (.int .i64 e.kind) ∧ v.cell? ⟨w.heap.size + 1 + 1, 1, none⟩ = some (.int .i64 e.bank) ∧ v.cell? ⟨w.heap.size + 1 + 1, 2, none⟩ = some (.int .i64 e.row) ∧ v.cell? ⟨w.heap.size + 1 + 1, 3, none⟩ = some (.int .i64 e.col) ∧ v.cell? ⟨wr.heap.size, 0, none⟩ = some (.int .i64 f.tm) ∧ v.cell? ⟨wr.heap.size, 1, none⟩ = some (.int .i64 f.kind) ∧ v.cell? ⟨wr.heap.size, 2, none⟩ = some (.int .i64 f.bank) ∧ v.cell? ⟨wr.heap.size, 3, none⟩ = some (.int .i64 f.row) ∧ v.cell? ⟨wr.heap.size, 4, none⟩ = some (.int .i64 f.col) ∧ Below W8.heap.size W8 v) (by kernel_rfl) (KEEP.out _ (Below.refl _ _).drew) (fun hSx => ?_)
      refine wpAnyH_take (i := 0) (v := ?_) rfl (by kernel_rfl) (by kernel_rfl) (by kernel_rfl) (fun _ _ _ h => h) (Or.inl ⟨by rfl, ?_⟩) (by assumption) ?_
      rotate_left
      · intro w hSw; (try dsimp only at hSw); go_simp; try with_reducible rfl
      try simp only [Act.put, List.getElem_toArray, List.getElem_cons_zero, List.getElem_cons_succ, List.setIfInBounds_toArray, List.set_cons_zero, List.set_cons_succ]
      refine wpAnyH_take (i := 1) (v := ?_) rfl (by kernel_rfl) (by kernel_rfl) (by kernel_rfl) (fun _ _ _ h => h) (Or.inl ⟨by rfl, ?_⟩) (by assumption) ?_
      rotate_left
      · intro w hSw; (try dsimp only at hSw); go_simp; try with_reducible rfl
      try simp only [Act.put, List.getElem_toArray, List.getElem_cons_zero, List.getElem_cons_succ, List.setIfInBounds_toArray, List.set_cons_zero, List.set_cons_succ]
      refine wpAnyH_take (i := 2) (v := ?_) rfl (by kernel_rfl) (by kernel_rfl) (by kernel_rfl) (fun _ _ _ h => h) (Or.inl ⟨by rfl, ?_⟩) (by assumption) ?_
      rotate_left
      · intro w hSw; (try dsimp only at hSw); go_simp; try with_reducible rfl
      try simp only [Act.put, List.getElem_toArray, List.getElem_cons_zero, List.getElem_cons_succ, List.setIfInBounds_toArray, List.set_cons_zero, List.set_cons_succ]
      refine wpAnyH_take (i := 3) (v := ?_) rfl (by kernel_rfl) (by kernel_rfl) (by kernel_rfl) (fun _ _ _ h => h) (Or.inl ⟨by rfl, ?_⟩) (by assumption) ?_
      rotate_left
      · intro w hSw; (try dsimp only at hSw); go_simp; try with_reducible rfl
      try simp only [Act.put, List.getElem_toArray, List.getElem_cons_zero, List.getElem_cons_succ, List.setIfInBounds_toArray, List.set_cons_zero, List.set_cons_succ]
      refine wpAnyH_take (i := 4) rfl (by kernel_rfl) (by kernel_rfl) (by kernel_rfl) (fun _ _ _ h => h) (yieldsIf_load_row (by rfl) 73 _ rfl (w.heap.size + 1) rfl 73 ((tmC t).toArray) (0, 0) _ (fun _ h => h.1) Try.underlying73 (tmC_info t)) (by assumption) ?_
      try simp only [Act.put, List.getElem_toArray, List.getElem_cons_zero, List.getElem_cons_succ, List.setIfInBounds_toArray, List.set_cons_zero, List.set_cons_succ]
      refine wpAnyH_take (i := 5) (v := ?_) rfl (by kernel_rfl) (by kernel_rfl) (by kernel_rfl) (fun _ _ _ h => h) (Or.inl ⟨by rfl, ?_⟩) (by assumption) ?_
      rotate_left
      · intro w hSw; (try dsimp only at hSw); go_simp; try with_reducible rfl
      try simp only [Act.put, List.getElem_toArray, List.getElem_cons_zero, List.getElem_cons_succ, List.setIfInBounds_toArray, List.set_cons_zero, List.set_cons_succ]
      refine wpAnyH_take (i := 6) (v := ?_) rfl (by kernel_rfl) (by kernel_rfl) (by kernel_rfl) (fun _ _ _ h => h) (Or.inl ⟨by rfl, ?_⟩) (by assumption) ?_
      rotate_left
      · intro w hSw; (try dsimp only at hSw); go_simp; try with_reducible rfl
      try simp only [Act.put, List.getElem_toArray, List.getElem_cons_zero, List.getElem_cons_succ, List.setIfInBounds_toArray, List.set_cons_zero, List.set_cons_succ]
      refine wpAnyH_take (i := 7) (v := ?_) rfl (by kernel_rfl) (by kernel_rfl) (by kernel_rfl) (fun _ _ _ h => h) (Or.inl ⟨by rfl, ?_⟩) (by assumption) ?_
      rotate_left
      · intro w hSw; (try dsimp only at hSw); go_simp; try with_reducible rfl
      try simp only [Act.put, List.getElem_toArray, List.getElem_cons_zero, List.getElem_cons_succ, List.setIfInBounds_toArray, List.set_cons_zero, List.set_cons_succ]
      refine wpAnyH_ready (rs := [8]) (by kernel_rfl) (by simp) ?_
      refine AllReadyH.cons rfl (fun K hK => ?_) AllReadyH.nil
      go_simp
      refine (impl_gap g t f e m _ hg hok HFF.out HE.out HM.out).mono ?_
      rintro e y1 ⟨rfl, hy1⟩
      refine hK.out _ _ (KEEP.out _ (bthenS2 hSx.2.2.2.2.2.2.2.2.2.2.2.2.2.2 hy1)) (fun hSy => ?_)
      clear hSx hK K
      have hSx := hSy; clear hSy
      try simp only [Act.put, List.getElem_toArray, List.getElem_cons_zero, List.getElem_cons_succ, List.setIfInBounds_toArray, List.set_cons_zero, List.set_cons_succ]
      refine wpAnyH_take (i := 9) (v := ?_) rfl (by kernel_rfl) (by kernel_rfl) (by kernel_rfl) (fun _ _ _ h => h) (Or.inl ⟨by rfl, ?_⟩) (by assumption) ?_
      rotate_left
      · intro w hSw; (try dsimp only at hSw); go_simp; try with_reducible rfl
      try simp only [Act.put, List.getElem_toArray, List.getElem_cons_zero, List.getElem_cons_succ, List.setIfInBounds_toArray, List.set_cons_zero, List.set_cons_succ]
      refine wpAnyH_take (i := 10) (v := ?_) rfl (by kernel_rfl) (by kernel_rfl) (by kernel_rfl) (fun _ _ _ h => h) (Or.inl ⟨by rfl, ?_⟩) (by assumption) ?_
      rotate_left
      · intro w hSw; (try dsimp only at hSw); go_simp; try with_reducible rfl
      try simp only [Act.put, List.getElem_toArray, List.getElem_cons_zero, List.getElem_cons_succ, List.setIfInBounds_toArray, List.set_cons_zero, List.set_cons_succ]
      refine wpAnyH_take (i := 11) (v := ?_) rfl (by kernel_rfl) (by kernel_rfl) (by kernel_rfl) (fun _ _ _ h => h) (Or.inl ⟨by rfl, ?_⟩) (by assumption) ?_
      rotate_left
      · intro w hSw; (try dsimp only at hSw); go_simp; try with_reducible rfl
      try simp only [Act.put, List.getElem_toArray, List.getElem_cons_zero, List.getElem_cons_succ, List.setIfInBounds_toArray, List.set_cons_zero, List.set_cons_succ]
      refine wpAnyH_done (by kernel_rfl) ?_ _
      have HY := hide hSx.2.2.2.2.2.2.2.2.2.2.2.2.2.2
      clear hSx KEEP hmx
      have hAY := bthen HA8.out HY.out HA8.out.size
      go_wp2_with fail
      go_roundw
      case rel => exact ⟨k + 1, x, by omega, by go_num, rfl, hx0, hx1, (hAY.block _ (lt_blk HK.out.1)).trans HK.out.1, (hAY.block _ (lt_blk HK.out.2.1)).trans HK.out.2.1, (hAY.block _ (lt_blk HK.out.2.2)).trans HK.out.2.2, bthen HB.out hAY hs1⟩
      case measure => simp [intOf]; omega
    · obtain rfl : k = n := by omega
      go_wp2_with fail
      go_ret
      exact ⟨v, rfl, v1, HB.out⟩
set_option maxRecDepth 100000 in
set_option maxHeartbeats 4000000 in
theorem impl_ActTimes (a : Option Addr) (n c : Nat) (evs : List Ev) (w : World) (ha : IsStructs evF 5 w a n c evs) (hn : n ≤ 2000) :
    Calls Try.prog 133 #[.slice a n c] w fun r w' => ∃ (a' : Option Addr) (m c' : Nat), r = .returned (.slice a' m c') ∧ (acts evs).length = m ∧ w'.ownsRow w.heap.size 3 1 (.slice a' m c') m ((acts evs).map (.int .i64)) ∧ Below w.heap.size w w' := by
  have HA := hide ha
  have hlen := hide ha.1
  clear ha
  obtain ⟨i0_int, hi_int, hz0_int, hz1_int, hz2_int⟩ := info_parts info_int
  go_enter Try.func133, Try.ntmps133
  go_wp2_with fail
  go_loopw [3, 9] (fun vo vi wr => ∃ (k m : Nat) (a' : Option Addr) (c' : Nat), k ≤ n ∧ m ≤ k ∧ vi = .int .i64 k ∧ vo = .slice a' m c' ∧ Hid ((acts (evs.take k)).length = m) ∧ wr.ownsRow w.heap.size 3 1 (.slice a' m c') m ((acts (evs.take k)).map (.int .i64)) ∧ Below w.heap.size w wr) (fun _ vi _ => n - (intOf vi).toNat)
  case atStart => exact ⟨0, 0, _, _, by omega, by omega, rfl, rfl, hide rfl, World.ownsRow_made (base := w.heap.size) (e := 3) (size := 1) w #[] 0 (Nat.le_refl _) (by decide) rfl, Below.alloc (Below.refl _ _) (Nat.le_refl _) _⟩
  case round =>
    obtain ⟨k, m, a', c', hk, hmk, rfl, rfl, Hm, hown, hB⟩ := hrel
    have hs := hB.size
    by_cases hlt : k < n
    · obtain ⟨f, b, o, hh_f, rfl, hlb, hcell⟩ := HA.out.get evF_len (by omega) (show k < n by omega)
      have q0 : wr.cell? ⟨b, o + k * 5, none⟩ = some (.int .i64 f.tm) := (hB.cell (p := ⟨b, o + (k * 5 + 0), none⟩) hlb).trans (hcell 0 _ rfl)
      have q1 : wr.cell? ⟨b, o + k * 5 + 1, none⟩ = some (.int .i64 f.kind) := (hB.cell (p := ⟨b, o + (k * 5 + 1), none⟩) hlb).trans (hcell 1 _ rfl)
      have q2 : wr.cell? ⟨b, o + k * 5 + 2, none⟩ = some (.int .i64 f.bank) := (hB.cell (p := ⟨b, o + (k * 5 + 2), none⟩) hlb).trans (hcell 2 _ rfl)
      have q3 : wr.cell? ⟨b, o + k * 5 + 3, none⟩ = some (.int .i64 f.row) := (hB.cell (p := ⟨b, o + (k * 5 + 3), none⟩) hlb).trans (hcell 3 _ rfl)
      have q4 : wr.cell? ⟨b, o + k * 5 + 4, none⟩ = some (.int .i64 f.col) := (hB.cell (p := ⟨b, o + (k * 5 + 4), none⟩) hlb).trans (hcell 4 _ rfl)
      have HE_f := hide hh_f
      have sz_f := hB.size
      have lt_b : b < wr.heap.size := (by have := hB.size; omega)
      have lw_b := hlb
      have i0_f : (0 : Int) ≤ (k : Int) := by omega
      have i1_f : (k : Int) < (n : Int) := by omega
      clear hcell hlb hh_f
      have HO := hide hown
      clear hown
      have HSN := hide (by have h := acts_snoc (evs.take k) f; rw [← take_snoc HE_f.out] at h; exact h)
      have hBa : Below w.heap.size w (wr.alloc (.cells #[.int .i64 f.tm, .int .i64 f.kind, .int .i64 f.bank, .int .i64 f.row, .int .i64 f.col] 100)) := hB.alloc hs _
      have HOa := hide (HO.out.alloc (.cells #[.int .i64 f.tm, .int .i64 f.kind, .int .i64 f.bank, .int .i64 f.row, .int .i64 f.col] 100))
      have hsa : wr.heap.size + 1 ≤ (wr.alloc (.cells #[.int .i64 f.tm, .int .i64 f.kind, .int .i64 f.bank, .int .i64 f.row, .int .i64 f.col] 100)).heap.size := by simp
      by_cases h1 : f.kind = 1
      · have hkq : (f.kind == 1) = true := by simp [h1]
        have HSN2 := hide (HSN.out.trans (if_pos h1))
        clear h1
        go_wp2_with (at_builtin; refine wpList_append_own _ rfl _ _ 46 rfl w.heap.size 3 i0_int (.int .i64 0) 1 8 Try.underlying46 hi_int hz0_int hz1_int hz2_int rfl (by decide) _ _ _ rfl (HOa.out.alloc _) ⟨wr.heap.size + 1, 0, none⟩ 1 1 [.int .i64 f.tm] rfl rfl ?c1p ?c2p ?c3p ?c4p ?c5p ?_)
        (try case c1p => exact news_at_of _ _ _ (by go_size))
        (try case c2p => first | exact List.all_eq_true.1 rfl | rfl)
        (try case c3p => (unfold maxLen; omega))
        (try case c4p => omega)
        (try case c5p => (first | go_size | (simp; omega)))
        intro v' wp hownp hgp _
        obtain ⟨ap, cp, rfl⟩ := own_shape hownp
        obtain ⟨hBp, hsp⟩ := below_app hBa HOa.out (by omega) (by omega) hgp
        have HGp := hide hgp; clear hgp
        go_wp2_with fail
        go_roundw
        case rel => exact ⟨k + 1, m + 1, _, _, by omega, by omega, by go_num, rfl, hide (by rw [HSN2.out, List.length_append, Hm.out]; rfl), by rw [HSN2.out]; simpa using hownp, hBp⟩
        case measure => simp [intOf]; omega
      · have hkq : (f.kind == 1) = false := by simp [h1]
        have HSN2 := hide (HSN.out.trans (if_neg h1))
        clear h1
        go_wp2_with fail
        go_roundw
        case rel => exact ⟨k + 1, m, _, _, by omega, by omega, by go_num, rfl, hide (by rw [HSN2.out]; exact Hm.out), by rw [HSN2.out]; exact HOa.out, hBa⟩
        case measure => simp [intOf]; omega
    · obtain rfl : k = n := by omega
      have HO := hide hown
      clear hown
      have ht : evs.take k = evs := List.take_of_length_le (by rw [hlen.out]; exact Nat.le_refl _)
      have HT := hide ht
      clear ht
      go_wp2_with fail
      go_ret
      exact ⟨_, _, _, rfl, by rw [← HT.out]; exact Hm.out, by have := HO.out; rw [HT.out] at this; exact this, hB⟩
set_option maxRecDepth 100000 in
set_option maxHeartbeats 4000000 in
theorem impl_fawTime (t : Tm) (a : Option Addr) (n c : Nat) (evs : List Ev) (T : Int) (w : World) (ha : IsStructs evF 5 w a n c evs) (hok : tmOk t = true) (hn : n ≤ 2000) (hT : 0 ≤ T)
    (hz : ∀ z, 4 ≤ (acts evs).length → (acts evs)[(acts evs).length - 4]? = some z → (0 ≤ z ∧ z ≤ 1000000) ∧ z + t.faw ≤ T) :
    Calls Try.prog 102 #[.agg (tmC t).toArray, .slice a n c] w fun r w' => ∃ v : Int, r = .returned (.int .i64 v) ∧ v ≤ T ∧ Below w.heap.size w w' := by
  have HA := hide ha; have HZ := hide hz
  obtain ⟨_, _, _, _, _, ⟨f0, f1⟩, hrest⟩ := tmOk_bd hok
  obtain ⟨tc0, tc1, tc2, tc3, tc4, tc5, hrest2⟩ := tm_at t
  clear ha hz hrest hrest2 tc0 tc1 tc2 tc3 tc4
  go_enter Try.func102, Try.ntmps102
  go_wp2_with fail
  have kt : (w.alloc (.cells (tmC t).toArray 73)).heap[w.heap.size]? = some (.cells (tmC t).toArray 73 (0, 0)) := alloc_at _ _ _ rfl
  have hB : Below w.heap.size w (w.alloc (.cells (tmC t).toArray 73)) := by go_grown
  refine (impl_ActTimes a n c evs _ (HA.out.below hB (Nat.le_refl _)) hn).mono ?_
  rintro r w1 ⟨a', m, c', rfl, hm, hown, h1⟩
  have hcap := own_caps hown
  have hc1 := hcap.1; have hc2 : c' ≤ 9223372036854775807 := hcap.2
  have k1 := (h1.block _ (lt_blk kt)).trans kt
  have t5 : w1.cell? ⟨w.heap.size, 5, none⟩ = some (.int .i64 t.faw) := (cell_blk k1 5).trans (by simp [tc5])
  have HB1 := hide (bthen hB h1 (by simp only [World.size_alloc]; omega))
  have HM := hide hm
  have HR := hide (show RowIn w1 a' ((acts evs).map (.int .i64)) by
    obtain ⟨a2, c2, e, _, _, _, hr⟩ := rowIn_own hown
    injection e with e1 e2 e3; subst e1; exact hr)
  clear kt hB hm hown hcap k1 tc5 h1
  by_cases h4 : m < 4
  · have h4' : (m : Int) < 4 := by omega
    clear h4
    go_wp2_with fail
    go_ret
    exact ⟨0, rfl, hT, HB1.out⟩
  · obtain ⟨q, hq⟩ : ∃ q : Nat, q = m - 4 := ⟨_, rfl⟩
    have h4' : ¬ (m : Int) < 4 := by omega
    have wsub : IntKind.i64.wrap ((m : Int) - 4) = (q : Int) := (IntWalk.i64_in _ (by omega)).trans (by omega)
    have q0 : (0 : Int) ≤ (q : Int) := by omega
    have q1 : (q : Int) < (m : Int) := by omega
    obtain ⟨z, b, o, hz, rfl, hlb, hc⟩ := RowIn.get HR.out (k := q) (by rw [HM.out]; omega)
    have hzz := HZ.out z (by rw [HM.out]; omega) (by rw [HM.out, ← hq]; exact hz)
    have z1 := hzz.1.1; have z2 := hzz.1.2; have z3 := hzz.2
    have wq : IntKind.i64.wrap (z + t.faw) = z + t.faw := IntWalk.i64_in _ (by omega)
    clear h4 hq hz hzz
    go_wp2_with fail
    go_quiet (fail)
    go_wp2_with fail
    go_ret
    exact ⟨_, rfl, z3, bdrawn HB1.out _⟩
end Go.Proofs.Ytahfbhfmhccgoaa
