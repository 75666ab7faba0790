/- After the wake-up time every command satisfies the timing rules: for every drawn input FnWake answers true. No condition. -/
import Derived.Test.YtahfbhfmhccgoaaWakeP
import Derived.Test.YtahfbhfmhccgoaaDrawU
import Derived.Test.YtahfbhfmhccgoaaPlaces
import Derived.Test.YtahfbhfmhccgoaaPower
import Derived.Test.YtahfbhfmhccgoaaWakeT
import Derived.Deep.RegionHeld3
import Derived.Deep.WholeRow
set_option linter.unusedSimpArgs false
set_option linter.unusedVariables false
namespace Go.Proofs.Ytahfbhfmhccgoaa
open Go.RowKit Go.ChangeShapes Go.WideShapes Go.ChangeAt Go.Joins Go.Deep
open Go.ChangeMaps (open_string shut_string)
theorem store_tm (t : Tm) (w : World) (c : Array Value) (hc : c.size = 17) : Sem.run Try.prog (storeCells ⟨w.heap.size, 0, none⟩ (tmC t)) (w.alloc (.cells c 73)) = .ok () (w.alloc (.cells (tmC t).toArray 73)) := by
  have := run_storeCells_new (P := Try.prog) w 73 c (tmC t).toArray (tmC_info t) (by rw [hc, List.size_toArray, tmC_len]) (tmC_one t)
  simpa using this
theorem wk2_row {w : World} {b : Nat} {en p now lv : Int} {T : TypeId} (hl : wkL p now = lv) (h : w.heap[b]? = some (.cells #[.int .i64 p, .int .i64 en, .int .i64 0, .int .i64 0, .int .i64 0, .int .i64 lv, .int .i64 (en + 1), .int .i64 0, .int .i64 0, .int .i64 0] T (0, 0))) : IsStructs evF 5 w (some ⟨b, 0, none⟩) 2 2 (wk2 en p now) := by
  refine ⟨rfl, Nat.le_refl _, by decide, fun i v hv => ⟨b, 0, rfl, ?_⟩⟩
  rw [Nat.zero_add, cell_blk h, List.getElem?_toArray]
  rw [← hv, wk2, hl]
  rfl
def enSt (en : Int) : Int := if en = 6 then 1 else 2
theorem change0 (en p : Int) (he : en = 6 ∨ en = 8) (hp : 0 ≤ p ∧ p ≤ 10000) (w : World) :
    Calls Try.prog 60 #[.agg #[.int .i64 0, .int .i64 0, .int .i64 0], .int .i64 en, .int .i64 p] w fun e w' => e = .returned (.tuple #[.agg #[.int .i64 (enSt en), .int .i64 p, .int .i64 0], .bool true]) ∧ Below w.heap.size w w' := by
  have := impl_PowerChange 0 0 0 en p w
  have hc : powChanges 0 0 0 en p = true := by
    unfold powChanges
    rw [btw_mk (by omega) (by omega)]
    rcases he with rfl | rfl <;> decide
  rw [powChanged_eq] at this
  unfold chS chT at this
  rw [hc, if_pos rfl, if_pos rfl] at this
  rcases he with rfl | rfl <;> exact this
theorem wake0 (en p now at' : Int) (he : en = 6 ∨ en = 8) (hp : 0 ≤ p ∧ p ≤ 10000) (hn : p ≤ now ∧ now ≤ 20000) (ha : wkL p now + wkX en = at') (w : World) :
    Calls Try.prog 61 #[.agg (tmC fast).toArray, .agg #[.int .i64 (enSt en), .int .i64 p, .int .i64 0], .int .i64 now] w fun e w' => e = .returned (.int .i64 at') ∧ Below w.heap.size w w' := by
  have := impl_WakeTime fast (enSt en) p 0 now w
  have h : wakeTime fast (enSt en) p 0 now = at' := by
    have ho : wakeOk fast (enSt en) p 0 now = true := by
      unfold wakeOk
      rw [fast_ok, btw_mk hn.1 (by omega), powOkB_true.2 ⟨by rcases he with rfl | rfl <;> decide, by omega, by omega⟩]; rfl
    unfold wakeTime
    rw [if_pos ho, ← ha]
    rcases he with rfl | rfl <;> rfl
  rw [h] at this; exact this
theorem wake1 (now : Int) (hn : 0 ≤ now ∧ now ≤ 20000) (w : World) :
    Calls Try.prog 61 #[.agg (tmC fast).toArray, .agg #[.int .i64 0, .int .i64 0, .int .i64 0], .int .i64 now] w fun e w' => e = .returned (.int .i64 now) ∧ Below w.heap.size w w' := by
  have := impl_WakeTime fast 0 0 0 now w
  have h : wakeTime fast 0 0 0 now = now := by
    have ho : wakeOk fast 0 0 0 now = true := by
      unfold wakeOk
      rw [fast_ok, btw_mk hn.1 (by omega)]; decide
    unfold wakeTime
    rw [if_pos ho]; simp
  rw [h] at this; exact this
set_option maxRecDepth 100000 in
set_option maxHeartbeats 4000000 in
theorem FnWake_walk (a : Option Addr) (n c : Nat) (zs : List Int) (w : World) (ha : IsInts .u8 w a n c zs) :
    Calls Try.prog 12 #[.slice a n c] w fun e w' => e = .returned (.bool true) ∧ Below w.heap.size w w' := by
  have hm : c ≤ 9223372036854775807 := ha.2.2.1
  have hc := ha.2.1
  by_cases hs : n ≤ 1048576
  · have HA := hide ha
    clear ha
    go_enter Try.func12, Try.ntmps12
    go_wp2_with fail
    refine (laws_big a n c _ hs).mono ?_
    rintro e w' ⟨rfl, rfl⟩
    go_wp2_with fail
    refine (spec_DrawCommand a n c zs w HA.out hs).mono ?_
    rintro e w1 ⟨g, ck, cb, cr, cc, hg, hcb, rfl, h1⟩
    have HG := hide hg; have HCB := hide hcb
    clear hg hcb
    go_wp2_with fail
    refine (spec_FastTiming _).mono ?_
    rintro e w2 ⟨rfl, h2⟩
    have KG2 := hide (show w2.heap[w1.heap.size]? = some (.cells #[.int .i64 g.gr, .int .i64 g.bk, .int .i64 g.rw, .int .i64 g.cl] 43 (0, 0)) from (h2.block _ (by simp only [World.size_alloc]; omega)).trans ((alloc_lt _ _ _ (by simp)).trans (alloc_at _ _ _ rfl)))
    have KC2 := hide (show w2.heap[w1.heap.size + 1]? = some (.cells #[.int .i64 ck, .int .i64 cb, .int .i64 cr, .int .i64 cc] 91 (0, 0)) from (h2.block _ (by simp only [World.size_alloc]; omega)).trans (alloc_at _ _ _ (by simp)))
    have HB2 := hide (show Below w.heap.size w w2 from bthen (show Below w.heap.size w ((w1.alloc (.cells #[.int .i64 g.gr, .int .i64 g.bk, .int .i64 g.rw, .int .i64 g.cl] 43)).alloc (.cells #[.int .i64 ck, .int .i64 cb, .int .i64 cr, .int .i64 cc] 91)) from by have := h1.size; exact (by repeat' (first | (with_reducible exact Below.refl _ _) | (with_reducible assumption) | (with_reducible refine bdrawn ?_ _) | (with_reducible refine Below.alloc ?_ ?_ _) | (with_reducible refine Below.drew ?_) | (with_reducible refine Below.setCell ?_ ?_ _) | go_size))) h2 (by have := h1.size; simp only [World.size_alloc]; omega))
    have s2 := h2.size
    simp only [World.size_alloc] at s2
    clear h1 h2
    have hst := store_tm fast w2 (#[.int .i64 0, .int .i64 0, .int .i64 0, .int .i64 0, .int .i64 0, .int .i64 0, .int .i64 0, .int .i64 0, .int .i64 0, .int .i64 0, .int .i64 0, .int .i64 0, .int .i64 0, .int .i64 0, .int .i64 0, .int .i64 0, .int .i64 0]) rfl
    go_wp2_with fail
    refine (spec_DrawPlaces a n c zs _ (HA.out.below (B := w.heap.size) (bthen HB2.out (Below.alloc (Below.refl _ _) (Nat.le_refl _) _) HB2.out.size) (Nat.le_refl _)) hs).mono ?_
    rintro e w3 ⟨a1, c1, ps, rfl, hown, hpl, hpb, h3⟩
    have s3 := h3.size
    simp only [World.size_alloc] at s3
    obtain ⟨P, rfl, hg0, hg1, hcell⟩ := own_some hown (by omega)
    have hget : ∀ j, j < 12 → ∃ z : Int, w3.cell? ⟨P, j, none⟩ = some (.int .i64 z) ∧ 0 ≤ z ∧ z ≤ 9999 := fun j hj => by
      have hp0 := hcell j hj
      obtain ⟨z, hz⟩ : ∃ z, ps[j]? = some z := ⟨_, List.getElem?_eq_getElem (by omega)⟩
      rw [List.getElem?_map, hz] at hp0
      exact ⟨z, hp0, hpb z (List.mem_of_getElem? hz)⟩
    obtain ⟨P0, e_p0, p00, p01⟩ := hget 0 (by omega)
    obtain ⟨P1, e_p1, p10, p11⟩ := hget 1 (by omega)
    obtain ⟨P2, e_p2, p20, p21⟩ := hget 2 (by omega)
    have KT3 := hide (show w3.heap[w2.heap.size]? = some (.cells (tmC fast).toArray 73 (0, 0)) from (h3.block _ (by simp)).trans (alloc_at _ _ _ rfl))
    have KG3 := hide (show w3.heap[w1.heap.size]? = some (.cells #[.int .i64 g.gr, .int .i64 g.bk, .int .i64 g.rw, .int .i64 g.cl] 43 (0, 0)) from (h3.block _ (by simp; omega)).trans ((alloc_lt _ _ _ (by omega)).trans KG2.out))
    have KC3 := hide (show w3.heap[w1.heap.size + 1]? = some (.cells #[.int .i64 ck, .int .i64 cb, .int .i64 cr, .int .i64 cc] 91 (0, 0)) from (h3.block _ (by simp; omega)).trans ((alloc_lt _ _ _ (by omega)).trans KC2.out))
    have HB3 := hide (show Below w.heap.size w w3 from bthen (bthen HB2.out (Below.alloc (Below.refl _ _) (Nat.le_refl _) _) HB2.out.size) h3 (by have := HB2.out.size; simp; omega))
    have hPs : P < w3.heap.size := by omega
    obtain ⟨en, hen, hen2, henq⟩ : ∃ en : Int, (en = 6 ∨ en = 8) ∧ 6 + 2 * P0.tmod 2 = en ∧ (0 ≤ P0.tmod 2 ∧ P0.tmod 2 ≤ 1) := by
      have h1 : P0.tmod 2 = P0 % 2 := Int.tmod_eq_emod_of_nonneg p00
      exact ⟨6 + 2 * P0.tmod 2, by omega, rfl, by omega⟩
    obtain ⟨M0, hM0⟩ : ∃ M, P0.tmod 2 = M := ⟨_, rfl⟩
    rw [hM0] at henq hen2
    have M00 := henq.1; have M01 := henq.2
    obtain ⟨M2, hM2⟩ : ∃ M, P2.tmod 10 = M := ⟨_, rfl⟩
    have M2b : 0 ≤ M2 ∧ M2 ≤ 9 := by
      have h1 : P2.tmod 10 = P2 % 10 := Int.tmod_eq_emod_of_nonneg p20
      omega
    have M20 := M2b.1; have M21 := M2b.2
    obtain ⟨now, hnow⟩ : ∃ now, P1 + M2 = now := ⟨_, rfl⟩
    have hn0 : P1 ≤ now := by omega
    have hn1 : now ≤ 20000 := by omega
    obtain ⟨z, hz⟩ : ∃ z, wkL P1 now + wkX en = z := ⟨_, rfl⟩
    have HZ := hide hz; have HEN := hide hen; have HPN := hide (And.intro (And.intro p10 (show P1 ≤ 10000 by omega)) (And.intro hn0 hn1))
    have wen : IntKind.i64.wrap (6 + 2 * M0) = en := (IntWalk.i64_in _ (by omega)).trans hen2
    have wnow : IntKind.i64.wrap (P1 + M2) = now := (IntWalk.i64_in _ (by omega)).trans hnow
    clear hown hpl hpb h3 hcell hget hg0 hg1 henq M2b KG2 KC2 HB2 hst hz s2 hen2 hnow
    go_wp2_with fail
    refine (change0 en P1 hen ⟨p10, by omega⟩ _).mono ?_
    rintro e w4 ⟨rfl, h4⟩
    obtain ⟨st, hst⟩ : ∃ st, enSt en = st := ⟨_, rfl⟩
    rw [hst]
    have HST := hide hst
    have s4 := h4.size
    have KT4 := hide ((h4.block _ (lt_blk KT3.out)).trans KT3.out)
    have KG4 := hide ((h4.block _ (lt_blk KG3.out)).trans KG3.out)
    have KC4 := hide ((h4.block _ (lt_blk KC3.out)).trans KC3.out)
    have HB4 := hide (bthen HB3.out h4 HB3.out.size)
    have f_p1 : w4.cell? ⟨P, 1, none⟩ = some (.int .i64 P1) := ((bcell h4).1 _ _ hPs).trans e_p1
    have f_p2 : w4.cell? ⟨P, 2, none⟩ = some (.int .i64 P2) := ((bcell h4).1 _ _ hPs).trans e_p2
    have hP4 : P < w4.heap.size := by omega
    clear e_p0 e_p1 e_p2 h4 hst wen hM0 M00 M01 KT3 KG3 KC3 HB3 hen
    go_wp2_with fail
    have kt5 : ∀ nq, ((w4.alloc (.cells #[.int .i64 st, .int .i64 P1, .int .i64 0] 95)).drewN nq).heap[w2.heap.size]? = some (.cells (tmC fast).toArray 73 (0, 0)) := fun nq => by rw [World.heap_drewN, alloc_lt _ _ _ (lt_blk KT4.out)]; exact KT4.out
    have HKT5 := hide kt5
    clear kt5
    go_quiet (fail)
    go_wp2_with (refine wpList_load_row rfl 73 _ rfl w2.heap.size rfl 73 (tmC fast).toArray (0, 0) _ (HKT5.out _) Try.underlying73 rfl (tmC_info fast) ?_)
    rw [← HST.out]
    refine (wake0 en P1 now z HEN.out HPN.out.1 HPN.out.2 HZ.out _).mono ?_
    rintro e w7 ⟨rfl, h7⟩
    rw [HST.out]
    have hB7 : Below w4.heap.size w4 w7 := bthen (bdrawn (Below.alloc (Below.refl _ _) (Nat.le_refl _) _) _) h7 (by simp)
    have s7 := hB7.size
    have KT7 := hide ((hB7.block _ (lt_blk KT4.out)).trans KT4.out)
    have KG7 := hide ((hB7.block _ (lt_blk KG4.out)).trans KG4.out)
    have KC7 := hide ((hB7.block _ (lt_blk KC4.out)).trans KC4.out)
    have HB7 := hide (bthen HB4.out hB7 HB4.out.size)
    have g_p1 : w7.cell? ⟨P, 1, none⟩ = some (.int .i64 P1) := ((bcell hB7).1 _ _ hP4).trans f_p1
    have t15 : w7.cell? ⟨w2.heap.size, 15, none⟩ = some (.int .i64 4) := cell_blk KT7.out 15
    have t16 : w7.cell? ⟨w2.heap.size, 16, none⟩ = some (.int .i64 16) := cell_blk KT7.out 16
    have hP7 : P < w7.heap.size := by omega
    have hl1 : 3 ≤ wkL P1 now ∧ wkL P1 now ≤ 20003 := by have := HPN.out; simp only [wkL]; omega
    have hxx : 4 ≤ wkX en ∧ wkX en ≤ 16 := by rcases HEN.out with rfl | rfl <;> decide
    have hz0 : 0 ≤ z := by have := HZ.out; omega
    have hz1 : z ≤ 20019 := by have := HZ.out; omega
    obtain ⟨lv, hlv⟩ : ∃ lv, wkL P1 now = lv := ⟨_, rfl⟩
    have HLV := hide hlv
    have hlv0 : 3 ≤ lv := by rw [← hlv]; exact hl1.1
    have hlv1 : lv ≤ 20003 := by rw [← hlv]; exact hl1.2
    have hcase : (en = 6 ∧ z - 4 = lv) ∨ (en = 8 ∧ z - 16 = lv) := by
      have := HZ.out; rw [hlv] at this
      rcases HEN.out with rfl | rfl
      · exact .inl ⟨rfl, by rw [show wkX 6 = 4 from rfl] at this; omega⟩
      · exact .inr ⟨rfl, by rw [show wkX 8 = 16 from rfl] at this; omega⟩
    clear f_p1 f_p2 h7 KT4 KG4 KC4 HB4 hM2 M20 M21 wnow p00 p01 HKT5 hl1 hxx hlv
    have e0 : w7.cell? ⟨w1.heap.size, 0, none⟩ = some (.int .i64 g.gr) := cell_blk KG7.out 0
    have e1 : w7.cell? ⟨w1.heap.size, 1, none⟩ = some (.int .i64 g.bk) := cell_blk KG7.out 1
    have e2 : w7.cell? ⟨w1.heap.size, 2, none⟩ = some (.int .i64 g.rw) := cell_blk KG7.out 2
    have e3 : w7.cell? ⟨w1.heap.size, 3, none⟩ = some (.int .i64 g.cl) := cell_blk KG7.out 3
    have lg7 := lt_blk KG7.out
    have lt7 := lt_blk KT7.out
    have ng7 : ¬ w1.heap.size = w7.heap.size := by omega
    obtain ⟨nb, hnb⟩ : ∃ nb : Nat, bankCnt g = (nb : Int) := ⟨(bankCnt g).toNat, by have := bankCnt_bd g; omega⟩
    have HNB := hide hnb
    clear hnb
    have ht8 : ∀ o, (w7.alloc o).heap[w2.heap.size]? = some (.cells (tmC fast).toArray 73 (0, 0)) := fun o => by rw [alloc_lt _ _ _ lt7]; exact KT7.out
    have HT8 := hide ht8
    clear ht8
    rcases hcase with ⟨rfl, hlz⟩ | ⟨rfl, hlz⟩
    · have wz1 : IntKind.i64.wrap (z - 4) = lv := (IntWalk.i64_in _ (by omega)).trans hlz
      go_wp2_with (first | (refine wpList_load_row rfl 73 _ rfl w2.heap.size rfl 73 (tmC fast).toArray (0, 0) _ (HT8.out _) Try.underlying73 rfl (tmC_info fast) ?_))
      have kl8 := alloc_at w7 (.cells #[.int .i64 P1, .int .i64 6, .int .i64 0, .int .i64 0, .int .i64 0, .int .i64 lv, .int .i64 (6 + 1), .int .i64 0, .int .i64 0, .int .i64 0] 100) _ rfl
      refine (spec_TraceFault_2 g 6 P1 now _ 2 nb _ (wk2_row HLV.out kl8) HG.out HNB.out (.inl rfl) HPN.out.1 HPN.out.2).mono ?_
      rintro e w8 ⟨⟨x8, rfl⟩, h8⟩
      have hB8 : Below w7.heap.size w7 w8 := bthen (Below.alloc (Below.refl _ _) (Nat.le_refl _) _) h8 (by simp)
      have s8 := h8.size
      simp only [World.size_alloc] at s8
      have KL := hide (show w8.heap[w7.heap.size]? = some (.cells #[.int .i64 P1, .int .i64 6, .int .i64 0, .int .i64 0, .int .i64 0, .int .i64 lv, .int .i64 7, .int .i64 0, .int .i64 0, .int .i64 0] 100 (0, 0)) from (h8.block _ (by simp)).trans kl8)
      have KT8 := hide ((hB8.block _ lt7).trans KT7.out)
      have KG8 := hide ((hB8.block _ lg7).trans KG7.out)
      have KC8 := hide ((hB8.block _ (lt_blk KC7.out)).trans KC7.out)
      have HB8 := hide (bthen HB7.out hB8 HB7.out.size)
      clear e0 e1 e2 e3 lg7 lt7 ng7 HT8 KT7 KG7 KC7 HB7 h8 hB8 kl8 t15 t16 g_p1
      have lt8 := lt_blk KT8.out
      have lg8 := lt_blk KG8.out
      have lc8 := lt_blk KC8.out
      obtain ⟨i0_Ev, hi_Ev, hz0_Ev, hz1_Ev, hz2_Ev⟩ := info_parts info_Ev
      have KEEP := hide (show ∀ v, Below w8.heap.size w8 v → v.heap[w2.heap.size]? = some (.cells (tmC fast).toArray 73 (0, 0)) ∧ v.cell? ⟨w1.heap.size, 0, none⟩ = some (.int .i64 g.gr) ∧ v.cell? ⟨w1.heap.size, 1, none⟩ = some (.int .i64 g.bk) ∧ v.cell? ⟨w1.heap.size, 2, none⟩ = some (.int .i64 g.rw) ∧ v.cell? ⟨w1.heap.size, 3, none⟩ = some (.int .i64 g.cl) ∧ v.cell? ⟨w1.heap.size + 1, 1, none⟩ = some (.int .i64 cb) ∧ Below w8.heap.size w8 v from fun v hb =>
        have h1 := (hb.block _ lt8).trans KT8.out
        have h2 := (hb.block _ lg8).trans KG8.out
        have h3 := (hb.block _ lc8).trans KC8.out
        ⟨h1, cell_blk h2 0, cell_blk h2 1, cell_blk h2 2, cell_blk h2 3, cell_blk h3 1, hb⟩)
      have wz : IntKind.i64.wrap (z - 1) = z - 1 := IntWalk.i64_in _ (by omega)
      go_upto_region 15 with fail
      go_cut [16, 17] (fun s0 s1 wx => (∃ y : Int, s0 = .int .i64 3 ∧ s1 = .int .i64 y) ∧ Below w8.heap.size w8 wx)
      case first =>
        refine wp_region_held_drew (S := fun v => v.heap[w2.heap.size]? = some (.cells (tmC fast).toArray 73 (0, 0)) ∧ v.cell? ⟨w1.heap.size, 0, none⟩ = some (.int .i64 g.gr) ∧ v.cell? ⟨w1.heap.size, 1, none⟩ = some (.int .i64 g.bk) ∧ v.cell? ⟨w1.heap.size, 2, none⟩ = some (.int .i64 g.rw) ∧ v.cell? ⟨w1.heap.size, 3, none⟩ = some (.int .i64 g.cl) ∧ v.cell? ⟨w1.heap.size + 1, 1, none⟩ = some (.int .i64 cb) ∧ Below w8.heap.size w8 v) (by kernel_rfl) (KEEP.out _ (Below.refl _ _).drew) (fun hSx => ?_)
        refine wpAnyH_take (i := 0) (v := ?_) rfl (by kernel_rfl) (by kernel_rfl) (by kernel_rfl) (fun _ _ _ h => h) (Or.inl ⟨by rfl, ?_⟩) (by assumption) ?_
        rotate_left
        · intro w hSw; (try dsimp only at hSw); go_simp; try with_reducible rfl
        try simp only [Act.put, List.getElem_toArray, List.getElem_cons_zero, List.getElem_cons_succ, List.setIfInBounds_toArray, List.set_cons_zero, List.set_cons_succ]
        refine wpAnyH_take (i := 1) rfl (by kernel_rfl) (by kernel_rfl) (by kernel_rfl) (fun _ _ _ h => h) (yieldsIf_load_row (by rfl) 73 _ rfl w2.heap.size rfl 73 ((tmC fast).toArray) (0, 0) _ (fun _ h => h.1) Try.underlying73 (tmC_info fast)) (by assumption) ?_
        try simp only [Act.put, List.getElem_toArray, List.getElem_cons_zero, List.getElem_cons_succ, List.setIfInBounds_toArray, List.set_cons_zero, List.set_cons_succ]
        refine wpAnyH_take (i := 3) (v := ?_) rfl (by kernel_rfl) (by kernel_rfl) (by kernel_rfl) (fun _ _ _ h => h) (Or.inl ⟨by rfl, ?_⟩) (by assumption) ?_
        rotate_left
        · intro w _; go_simp; try with_reducible rfl
        try simp only [Act.put, List.getElem_toArray, List.getElem_cons_zero, List.getElem_cons_succ, List.setIfInBounds_toArray, List.set_cons_zero, List.set_cons_succ]
        refine wpAnyH_take (i := 5) (v := ?_) rfl (by kernel_rfl) (by kernel_rfl) (by kernel_rfl) (fun _ _ _ h => h) (Or.inl ⟨by rfl, ?_⟩) (by assumption) ?_
        rotate_left
        · intro w _; go_simp; try with_reducible rfl
        try simp only [Act.put, List.getElem_toArray, List.getElem_cons_zero, List.getElem_cons_succ, List.setIfInBounds_toArray, List.set_cons_zero, List.set_cons_succ]
        refine wpAnyH_take (i := 6) (v := ?_) rfl (by kernel_rfl) (by kernel_rfl) (by kernel_rfl) (fun _ _ _ h => h) (Or.inl ⟨by rfl, ?_⟩) (by assumption) ?_
        rotate_left
        · intro w _; go_simp; try with_reducible rfl
        try simp only [Act.put, List.getElem_toArray, List.getElem_cons_zero, List.getElem_cons_succ, List.setIfInBounds_toArray, List.set_cons_zero, List.set_cons_succ]
        refine wpAnyH_take (i := 7) (v := ?_) rfl (by kernel_rfl) (by kernel_rfl) (by kernel_rfl) (fun _ _ _ h => h) (Or.inl ⟨by rfl, ?_⟩) (by assumption) ?_
        rotate_left
        · intro w _; go_simp; try with_reducible rfl
        try simp only [Act.put, List.getElem_toArray, List.getElem_cons_zero, List.getElem_cons_succ, List.setIfInBounds_toArray, List.set_cons_zero, List.set_cons_succ]
        refine wpAnyH_take (i := 8) (v := ?_) rfl (by kernel_rfl) (by kernel_rfl) (by kernel_rfl) (fun _ _ _ h => h) (Or.inl ⟨by rfl, ?_⟩) (by assumption) ?_
        rotate_left
        · intro w hSw; (try dsimp only at hSw); go_simp; try with_reducible rfl
        try simp only [Act.put, List.getElem_toArray, List.getElem_cons_zero, List.getElem_cons_succ, List.setIfInBounds_toArray, List.set_cons_zero, List.set_cons_succ]
        refine wpAnyH_take (i := 9) (v := ?_) rfl (by kernel_rfl) (by kernel_rfl) (by kernel_rfl) (fun _ _ _ h => h) (Or.inl ⟨by rfl, ?_⟩) (by assumption) ?_
        rotate_left
        · intro w _; go_simp; try with_reducible rfl
        try simp only [Act.put, List.getElem_toArray, List.getElem_cons_zero, List.getElem_cons_succ, List.setIfInBounds_toArray, List.set_cons_zero, List.set_cons_succ]
        refine wpAnyH_take (i := 10) (v := ?_) rfl (by kernel_rfl) (by kernel_rfl) (by kernel_rfl) (fun _ _ _ h => h) (Or.inl ⟨by rfl, ?_⟩) (by assumption) ?_
        rotate_left
        · intro w _; go_simp; try with_reducible rfl
        try simp only [Act.put, List.getElem_toArray, List.getElem_cons_zero, List.getElem_cons_succ, List.setIfInBounds_toArray, List.set_cons_zero, List.set_cons_succ]
        refine wpAnyH_ready (rs := [2, 11]) (by kernel_rfl) (by simp) ?_
        refine AllReadyH.cons rfl (fun K hK => ?_) (AllReadyH.cons rfl (fun K hK => ?_) AllReadyH.nil)
        · go_simp
          (refine hK.out _ _ (KEEP.out _ ((Below.alloc (Below.refl _ _) (Nat.le_refl _) _).drew)) (fun hSy => ?_))
          clear hK K
          have hSx := hSy; clear hSy
          try simp only [Act.put, List.getElem_toArray, List.getElem_cons_zero, List.getElem_cons_succ, List.setIfInBounds_toArray, List.set_cons_zero, List.set_cons_succ]
          refine wpAnyH_ready (rs := [4, 11]) (by kernel_rfl) (by simp) ?_
          refine AllReadyH.cons rfl (fun K hK => ?_) (AllReadyH.cons rfl (fun K hK => ?_) AllReadyH.nil)
          · refine step_append_lies _ (by rfl) _ _ _ (by rfl) w8.heap.size 100 i0_Ev _ 5 40 Try.underlying76 hi_Ev hz0_Ev hz1_Ev hz2_Ev rfl (by omega) _ 0 _ (by rfl) (((own_made_at rfl (Nat.le_refl _)).drew)) ⟨w7.heap.size, 0, none⟩ 2 2 [.int .i64 P1, .int .i64 6, .int .i64 0, .int .i64 0, .int .i64 0, .int .i64 lv, .int .i64 7, .int .i64 0, .int .i64 0, .int .i64 0] (by rfl) (by rfl) (World.news_of_block (cs := #[.int .i64 P1, .int .i64 6, .int .i64 0, .int .i64 0, .int .i64 0, .int .i64 lv, .int .i64 7, .int .i64 0, .int .i64 0, .int .i64 0]) (t := 100) (fr := (0, 0)) (show ((World.drew (World.alloc w8 (.cells #[] 100)))).heap[w7.heap.size]? = some (.cells #[.int .i64 P1, .int .i64 6, .int .i64 0, .int .i64 0, .int .i64 0, .int .i64 lv, .int .i64 7, .int .i64 0, .int .i64 0, .int .i64 0] 100 (0, 0)) from (alloc_lt _ _ _ (by omega)).trans KL.out)) (List.all_eq_true.1 rfl) (by omega) (by unfold maxLen; omega) (by omega) (by first | go_size | (simp; omega)) _ rfl ?_
            intro gb qb Vb hownb hgb hatb hltb
            simp only [Nat.zero_add, List.nil_append] at hownb ⊢
            have hBb : Below w8.heap.size w8 Vb := ((Below.alloc (Below.refl _ _) (Nat.le_refl _) _).drew).grown hgb (by simp) (fun k hk => by have := Option.some.inj (show some w8.heap.size = some k from hk); omega)
            have sb := hgb.size; simp only [World.size_alloc, World.size_drew] at sb
            (refine hK.out _ _ (KEEP.out _ (hBb)) (fun hSy => ?_))
            clear hK K
            have hSx := hSy; clear hSy
            try simp only [Act.put, List.getElem_toArray, List.getElem_cons_zero, List.getElem_cons_succ, List.setIfInBounds_toArray, List.set_cons_zero, List.set_cons_succ]
            refine wpAnyH_ready (rs := [11]) (by kernel_rfl) (by simp) ?_
            refine AllReadyH.cons rfl (fun K hK => ?_) AllReadyH.nil
            go_simp
            (refine hK.out _ _ (KEEP.out _ (hBb.alloc (by omega) _)) (fun hSy => ?_))
            clear hK K
            have hSx := hSy; clear hSy
            try simp only [Act.put, List.getElem_toArray, List.getElem_cons_zero, List.getElem_cons_succ, List.setIfInBounds_toArray, List.set_cons_zero, List.set_cons_succ]
            refine wpAnyH_ready (rs := [12]) (by kernel_rfl) (by simp) ?_
            refine AllReadyH.cons rfl (fun K hK => ?_) AllReadyH.nil
            refine step_append_lies _ (by rfl) _ _ _ (by rfl) w8.heap.size 100 i0_Ev _ 5 40 Try.underlying76 hi_Ev hz0_Ev hz1_Ev hz2_Ev rfl (by omega) _ 2 _ (by rfl) (hownb.alloc _) ⟨Vb.heap.size, 0, none⟩ 1 1 [.int .i64 (z - 1), .int .i64 5, .int .i64 cb, .int .i64 0, .int .i64 0] (by rfl) (by rfl) (World.news_of_block (cs := #[.int .i64 (z - 1), .int .i64 5, .int .i64 cb, .int .i64 0, .int .i64 0]) (t := 100) (fr := (0, 0)) (alloc_at _ _ _ rfl)) (List.all_eq_true.1 rfl) (by omega) (by unfold maxLen; omega) (by omega) (by first | go_size | (simp; omega)) _ rfl ?_
            intro gd qd Vd hownd hgd hatd hltd
            simp only [Nat.reduceAdd] at hownd ⊢
            have hBd : Below w8.heap.size w8 Vd := (hBb.alloc (by omega) _).grown hgd (by simp; omega) (fun k hk => by have := (hownb.lt k hk).1; omega)
            have sd := hBd.size
            (refine hK.out _ _ (KEEP.out _ (hBd)) (fun hSy => ?_))
            clear hK K
            have hSx := hSy; clear hSy
            try simp only [Act.put, List.getElem_toArray, List.getElem_cons_zero, List.getElem_cons_succ, List.setIfInBounds_toArray, List.set_cons_zero, List.set_cons_succ]
            refine wpAnyH_ready (rs := [13]) (by kernel_rfl) (by simp) ?_
            refine AllReadyH.cons rfl (fun K hK => ?_) AllReadyH.nil
            go_simp
            refine (spec_TraceFault_e g 6 P1 now (z - 1) cb (some ⟨gd, 0, none⟩) qd nb _ (isStructs_own (B := w8.heap.size) (E := 100) evF_len (by omega) (by rw [wk3, HLV.out]; exact hownd)) HG.out HNB.out (.inl rfl) HPN.out.1 HPN.out.2 (by rw [HZ.out]) HCB.out).mono ?_
            rintro ex Ve ⟨⟨ye, rfl⟩, hye⟩
            have hBe : Below w8.heap.size w8 Ve := bthen hBd hye sd
            (refine hK.out _ _ (KEEP.out _ (hBe)) (fun hSy => ?_))
            clear hK K
            have hSx := hSy; clear hSy
            try simp only [Act.put, List.getElem_toArray, List.getElem_cons_zero, List.getElem_cons_succ, List.setIfInBounds_toArray, List.set_cons_zero, List.set_cons_succ]
            refine wpAnyH_take (i := 14) (v := ?_) rfl (by kernel_rfl) (by kernel_rfl) (by kernel_rfl) (fun _ _ _ h => h) (Or.inl ⟨by rfl, ?_⟩) (by assumption) ?_
            rotate_left
            · intro w _; go_simp; try with_reducible rfl
            try simp only [Act.put, List.getElem_toArray, List.getElem_cons_zero, List.getElem_cons_succ, List.setIfInBounds_toArray, List.set_cons_zero, List.set_cons_succ]
            refine wpAnyH_take (i := 15) (v := ?_) rfl (by kernel_rfl) (by kernel_rfl) (by kernel_rfl) (fun _ _ _ h => h) (Or.inl ⟨by rfl, ?_⟩) (by assumption) ?_
            rotate_left
            · intro w _; go_simp; try with_reducible rfl
            try simp only [Act.put, List.getElem_toArray, List.getElem_cons_zero, List.getElem_cons_succ, List.setIfInBounds_toArray, List.set_cons_zero, List.set_cons_succ]
            refine wpAnyH_take (i := 16) (v := ?_) rfl (by kernel_rfl) (by kernel_rfl) (by kernel_rfl) (fun _ _ _ h => h) (Or.inl ⟨by rfl, ?_⟩) (by assumption) ?_
            rotate_left
            · intro w _; go_simp; try with_reducible rfl
            try simp only [Act.put, List.getElem_toArray, List.getElem_cons_zero, List.getElem_cons_succ, List.setIfInBounds_toArray, List.set_cons_zero, List.set_cons_succ]
            refine wpAnyH_take (i := 17) (v := ?_) rfl (by kernel_rfl) (by kernel_rfl) (by kernel_rfl) (fun _ _ _ h => h) (Or.inl ⟨by rfl, ?_⟩) (by assumption) ?_
            rotate_left
            · intro w _; go_simp; try with_reducible rfl
            try simp only [Act.put, List.getElem_toArray, List.getElem_cons_zero, List.getElem_cons_succ, List.setIfInBounds_toArray, List.set_cons_zero, List.set_cons_succ]
            refine wpAnyH_take (i := 18) (v := ?_) rfl (by kernel_rfl) (by kernel_rfl) (by kernel_rfl) (fun _ _ _ h => h) (Or.inl ⟨by rfl, ?_⟩) (by assumption) ?_
            rotate_left
            · intro w _; go_simp; try with_reducible rfl
            try simp only [Act.put, List.getElem_toArray, List.getElem_cons_zero, List.getElem_cons_succ, List.setIfInBounds_toArray, List.set_cons_zero, List.set_cons_succ]
            refine wpAnyH_done (by kernel_rfl) ?_ _
            go_wp2_with fail
            go_meet
            exact ⟨⟨_, rfl, rfl⟩, hBe⟩
          · go_simp
            (refine hK.out _ _ (KEEP.out _ (((Below.alloc (Below.refl _ _) (Nat.le_refl _) _).alloc (by simp) _).drew)) (fun hSy => ?_))
            clear hK K
            have hSx := hSy; clear hSy
            try simp only [Act.put, List.getElem_toArray, List.getElem_cons_zero, List.getElem_cons_succ, List.setIfInBounds_toArray, List.set_cons_zero, List.set_cons_succ]
            refine wpAnyH_ready (rs := [4]) (by kernel_rfl) (by simp) ?_
            refine AllReadyH.cons rfl (fun K hK => ?_) AllReadyH.nil
            refine step_append_lies _ (by rfl) _ _ _ (by rfl) w8.heap.size 100 i0_Ev _ 5 40 Try.underlying76 hi_Ev hz0_Ev hz1_Ev hz2_Ev rfl (by omega) _ 0 _ (by rfl) ((((own_made_at rfl (Nat.le_refl _)).alloc _).drew)) ⟨w7.heap.size, 0, none⟩ 2 2 [.int .i64 P1, .int .i64 6, .int .i64 0, .int .i64 0, .int .i64 0, .int .i64 lv, .int .i64 7, .int .i64 0, .int .i64 0, .int .i64 0] (by rfl) (by rfl) (World.news_of_block (cs := #[.int .i64 P1, .int .i64 6, .int .i64 0, .int .i64 0, .int .i64 0, .int .i64 lv, .int .i64 7, .int .i64 0, .int .i64 0, .int .i64 0]) (t := 100) (fr := (0, 0)) (show ((World.drew (World.alloc (World.alloc w8 (.cells #[] 100)) (.cells #[.int .i64 (z - 1), .int .i64 5, .int .i64 cb, .int .i64 0, .int .i64 0] 100)))).heap[w7.heap.size]? = some (.cells #[.int .i64 P1, .int .i64 6, .int .i64 0, .int .i64 0, .int .i64 0, .int .i64 lv, .int .i64 7, .int .i64 0, .int .i64 0, .int .i64 0] 100 (0, 0)) from (alloc_lt _ _ _ (by simp; omega)).trans ((alloc_lt _ _ _ (by omega)).trans KL.out))) (List.all_eq_true.1 rfl) (by omega) (by unfold maxLen; omega) (by omega) (by first | go_size | (simp; omega)) _ rfl ?_
            intro gb qb Vb hownb hgb hatb hltb
            simp only [Nat.zero_add, List.nil_append] at hownb ⊢
            have hBb : Below w8.heap.size w8 Vb := (((Below.alloc (Below.refl _ _) (Nat.le_refl _) _).alloc (by simp) _).drew).grown hgb (by simp; omega) (fun k hk => by have := Option.some.inj (show some (w8.heap.size) = some k from hk); (try simp only [World.size_alloc] at this); omega)
            have sb := hgb.size; simp only [World.size_alloc, World.size_drew] at sb
            have kc : Vb.heap[w8.heap.size + 1]? = some (.cells #[.int .i64 (z - 1), .int .i64 5, .int .i64 cb, .int .i64 0, .int .i64 0] 100 (0, 0)) := (hgb.block _ (by simp only [World.size_drew, World.size_alloc]; omega) (fun h => by have := Option.some.inj (show some (w8.heap.size + 1) = some (w8.heap.size) from h); (try simp only [World.size_alloc] at this); omega)).trans (alloc_at _ _ _ (by simp))
            (refine hK.out _ _ (KEEP.out _ (hBb)) (fun hSy => ?_))
            clear hK K
            have hSx := hSy; clear hSy
            try simp only [Act.put, List.getElem_toArray, List.getElem_cons_zero, List.getElem_cons_succ, List.setIfInBounds_toArray, List.set_cons_zero, List.set_cons_succ]
            refine wpAnyH_ready (rs := [12]) (by kernel_rfl) (by simp) ?_
            refine AllReadyH.cons rfl (fun K hK => ?_) AllReadyH.nil
            refine step_append_lies _ (by rfl) _ _ _ (by rfl) w8.heap.size 100 i0_Ev _ 5 40 Try.underlying76 hi_Ev hz0_Ev hz1_Ev hz2_Ev rfl (by omega) _ 2 _ (by rfl) (hownb) ⟨w8.heap.size + 1, 0, none⟩ 1 1 [.int .i64 (z - 1), .int .i64 5, .int .i64 cb, .int .i64 0, .int .i64 0] (by rfl) (by rfl) (World.news_of_block (cs := #[.int .i64 (z - 1), .int .i64 5, .int .i64 cb, .int .i64 0, .int .i64 0]) (t := 100) (fr := (0, 0)) kc) (List.all_eq_true.1 rfl) (by omega) (by unfold maxLen; omega) (by omega) (by first | go_size | (simp; omega)) _ rfl ?_
            intro gd qd Vd hownd hgd hatd hltd
            simp only [Nat.reduceAdd] at hownd ⊢
            have hBd : Below w8.heap.size w8 Vd := hBb.grown hgd (by omega) (fun k hk => by have := (hownb.lt k hk).1; omega)
            have sd := hBd.size
            (refine hK.out _ _ (KEEP.out _ (hBd)) (fun hSy => ?_))
            clear hK K
            have hSx := hSy; clear hSy
            try simp only [Act.put, List.getElem_toArray, List.getElem_cons_zero, List.getElem_cons_succ, List.setIfInBounds_toArray, List.set_cons_zero, List.set_cons_succ]
            refine wpAnyH_ready (rs := [13]) (by kernel_rfl) (by simp) ?_
            refine AllReadyH.cons rfl (fun K hK => ?_) AllReadyH.nil
            go_simp
            refine (spec_TraceFault_e g 6 P1 now (z - 1) cb (some ⟨gd, 0, none⟩) qd nb _ (isStructs_own (B := w8.heap.size) (E := 100) evF_len (by omega) (by rw [wk3, HLV.out]; exact hownd)) HG.out HNB.out (.inl rfl) HPN.out.1 HPN.out.2 (by rw [HZ.out]) HCB.out).mono ?_
            rintro ex Ve ⟨⟨ye, rfl⟩, hye⟩
            have hBe : Below w8.heap.size w8 Ve := bthen hBd hye sd
            (refine hK.out _ _ (KEEP.out _ (hBe)) (fun hSy => ?_))
            clear hK K
            have hSx := hSy; clear hSy
            try simp only [Act.put, List.getElem_toArray, List.getElem_cons_zero, List.getElem_cons_succ, List.setIfInBounds_toArray, List.set_cons_zero, List.set_cons_succ]
            refine wpAnyH_take (i := 14) (v := ?_) rfl (by kernel_rfl) (by kernel_rfl) (by kernel_rfl) (fun _ _ _ h => h) (Or.inl ⟨by rfl, ?_⟩) (by assumption) ?_
            rotate_left
            · intro w _; go_simp; try with_reducible rfl
            try simp only [Act.put, List.getElem_toArray, List.getElem_cons_zero, List.getElem_cons_succ, List.setIfInBounds_toArray, List.set_cons_zero, List.set_cons_succ]
            refine wpAnyH_take (i := 15) (v := ?_) rfl (by kernel_rfl) (by kernel_rfl) (by kernel_rfl) (fun _ _ _ h => h) (Or.inl ⟨by rfl, ?_⟩) (by assumption) ?_
            rotate_left
            · intro w _; go_simp; try with_reducible rfl
            try simp only [Act.put, List.getElem_toArray, List.getElem_cons_zero, List.getElem_cons_succ, List.setIfInBounds_toArray, List.set_cons_zero, List.set_cons_succ]
            refine wpAnyH_take (i := 16) (v := ?_) rfl (by kernel_rfl) (by kernel_rfl) (by kernel_rfl) (fun _ _ _ h => h) (Or.inl ⟨by rfl, ?_⟩) (by assumption) ?_
            rotate_left
            · intro w _; go_simp; try with_reducible rfl
            try simp only [Act.put, List.getElem_toArray, List.getElem_cons_zero, List.getElem_cons_succ, List.setIfInBounds_toArray, List.set_cons_zero, List.set_cons_succ]
            refine wpAnyH_take (i := 17) (v := ?_) rfl (by kernel_rfl) (by kernel_rfl) (by kernel_rfl) (fun _ _ _ h => h) (Or.inl ⟨by rfl, ?_⟩) (by assumption) ?_
            rotate_left
            · intro w _; go_simp; try with_reducible rfl
            try simp only [Act.put, List.getElem_toArray, List.getElem_cons_zero, List.getElem_cons_succ, List.setIfInBounds_toArray, List.set_cons_zero, List.set_cons_succ]
            refine wpAnyH_take (i := 18) (v := ?_) rfl (by kernel_rfl) (by kernel_rfl) (by kernel_rfl) (fun _ _ _ h => h) (Or.inl ⟨by rfl, ?_⟩) (by assumption) ?_
            rotate_left
            · intro w _; go_simp; try with_reducible rfl
            try simp only [Act.put, List.getElem_toArray, List.getElem_cons_zero, List.getElem_cons_succ, List.setIfInBounds_toArray, List.set_cons_zero, List.set_cons_succ]
            refine wpAnyH_done (by kernel_rfl) ?_ _
            go_wp2_with fail
            go_meet
            exact ⟨⟨_, rfl, rfl⟩, hBe⟩
        · go_simp
          (refine hK.out _ _ (KEEP.out _ ((Below.alloc (Below.refl _ _) (Nat.le_refl _) _).drew)) (fun hSy => ?_))
          clear hK K
          have hSx := hSy; clear hSy
          try simp only [Act.put, List.getElem_toArray, List.getElem_cons_zero, List.getElem_cons_succ, List.setIfInBounds_toArray, List.set_cons_zero, List.set_cons_succ]
          refine wpAnyH_ready (rs := [2]) (by kernel_rfl) (by simp) ?_
          refine AllReadyH.cons rfl (fun K hK => ?_) AllReadyH.nil
          go_simp
          (refine hK.out _ _ (KEEP.out _ (((Below.alloc (Below.refl _ _) (Nat.le_refl _) _).alloc (by simp) _).drew)) (fun hSy => ?_))
          clear hK K
          have hSx := hSy; clear hSy
          try simp only [Act.put, List.getElem_toArray, List.getElem_cons_zero, List.getElem_cons_succ, List.setIfInBounds_toArray, List.set_cons_zero, List.set_cons_succ]
          refine wpAnyH_ready (rs := [4]) (by kernel_rfl) (by simp) ?_
          refine AllReadyH.cons rfl (fun K hK => ?_) AllReadyH.nil
          refine step_append_lies _ (by rfl) _ _ _ (by rfl) w8.heap.size 100 i0_Ev _ 5 40 Try.underlying76 hi_Ev hz0_Ev hz1_Ev hz2_Ev rfl (by omega) _ 0 _ (by rfl) (((own_made_at (by simp) (by simp)).drew)) ⟨w7.heap.size, 0, none⟩ 2 2 [.int .i64 P1, .int .i64 6, .int .i64 0, .int .i64 0, .int .i64 0, .int .i64 lv, .int .i64 7, .int .i64 0, .int .i64 0, .int .i64 0] (by rfl) (by rfl) (World.news_of_block (cs := #[.int .i64 P1, .int .i64 6, .int .i64 0, .int .i64 0, .int .i64 0, .int .i64 lv, .int .i64 7, .int .i64 0, .int .i64 0, .int .i64 0]) (t := 100) (fr := (0, 0)) (show ((World.drew (World.alloc (World.alloc w8 (.cells #[.int .i64 (z - 1), .int .i64 5, .int .i64 cb, .int .i64 0, .int .i64 0] 100)) (.cells #[] 100)))).heap[w7.heap.size]? = some (.cells #[.int .i64 P1, .int .i64 6, .int .i64 0, .int .i64 0, .int .i64 0, .int .i64 lv, .int .i64 7, .int .i64 0, .int .i64 0, .int .i64 0] 100 (0, 0)) from (alloc_lt _ _ _ (by simp; omega)).trans ((alloc_lt _ _ _ (by omega)).trans KL.out))) (List.all_eq_true.1 rfl) (by omega) (by unfold maxLen; omega) (by omega) (by first | go_size | (simp; omega)) _ rfl ?_
          intro gb qb Vb hownb hgb hatb hltb
          simp only [Nat.zero_add, List.nil_append] at hownb ⊢
          have hBb : Below w8.heap.size w8 Vb := (((Below.alloc (Below.refl _ _) (Nat.le_refl _) _).alloc (by simp) _).drew).grown hgb (by simp; omega) (fun k hk => by have := Option.some.inj (show some (w8.heap.size + 1) = some k from hk); (try simp only [World.size_alloc] at this); omega)
          have sb := hgb.size; simp only [World.size_alloc, World.size_drew] at sb
          have kc : Vb.heap[w8.heap.size]? = some (.cells #[.int .i64 (z - 1), .int .i64 5, .int .i64 cb, .int .i64 0, .int .i64 0] 100 (0, 0)) := (hgb.block _ (by simp only [World.size_drew, World.size_alloc]; omega) (fun h => by have := Option.some.inj (show some (w8.heap.size) = some (w8.heap.size + 1) from h); (try simp only [World.size_alloc] at this); omega)).trans ((alloc_lt _ _ _ (by simp)).trans (alloc_at _ _ _ rfl))
          (refine hK.out _ _ (KEEP.out _ (hBb)) (fun hSy => ?_))
          clear hK K
          have hSx := hSy; clear hSy
          try simp only [Act.put, List.getElem_toArray, List.getElem_cons_zero, List.getElem_cons_succ, List.setIfInBounds_toArray, List.set_cons_zero, List.set_cons_succ]
          refine wpAnyH_ready (rs := [12]) (by kernel_rfl) (by simp) ?_
          refine AllReadyH.cons rfl (fun K hK => ?_) AllReadyH.nil
          refine step_append_lies _ (by rfl) _ _ _ (by rfl) w8.heap.size 100 i0_Ev _ 5 40 Try.underlying76 hi_Ev hz0_Ev hz1_Ev hz2_Ev rfl (by omega) _ 2 _ (by rfl) (hownb) ⟨w8.heap.size, 0, none⟩ 1 1 [.int .i64 (z - 1), .int .i64 5, .int .i64 cb, .int .i64 0, .int .i64 0] (by rfl) (by rfl) (World.news_of_block (cs := #[.int .i64 (z - 1), .int .i64 5, .int .i64 cb, .int .i64 0, .int .i64 0]) (t := 100) (fr := (0, 0)) kc) (List.all_eq_true.1 rfl) (by omega) (by unfold maxLen; omega) (by omega) (by first | go_size | (simp; omega)) _ rfl ?_
          intro gd qd Vd hownd hgd hatd hltd
          simp only [Nat.reduceAdd] at hownd ⊢
          have hBd : Below w8.heap.size w8 Vd := hBb.grown hgd (by omega) (fun k hk => by have := (hownb.lt k hk).1; omega)
          have sd := hBd.size
          (refine hK.out _ _ (KEEP.out _ (hBd)) (fun hSy => ?_))
          clear hK K
          have hSx := hSy; clear hSy
          try simp only [Act.put, List.getElem_toArray, List.getElem_cons_zero, List.getElem_cons_succ, List.setIfInBounds_toArray, List.set_cons_zero, List.set_cons_succ]
          refine wpAnyH_ready (rs := [13]) (by kernel_rfl) (by simp) ?_
          refine AllReadyH.cons rfl (fun K hK => ?_) AllReadyH.nil
          go_simp
          refine (spec_TraceFault_e g 6 P1 now (z - 1) cb (some ⟨gd, 0, none⟩) qd nb _ (isStructs_own (B := w8.heap.size) (E := 100) evF_len (by omega) (by rw [wk3, HLV.out]; exact hownd)) HG.out HNB.out (.inl rfl) HPN.out.1 HPN.out.2 (by rw [HZ.out]) HCB.out).mono ?_
          rintro ex Ve ⟨⟨ye, rfl⟩, hye⟩
          have hBe : Below w8.heap.size w8 Ve := bthen hBd hye sd
          (refine hK.out _ _ (KEEP.out _ (hBe)) (fun hSy => ?_))
          clear hK K
          have hSx := hSy; clear hSy
          try simp only [Act.put, List.getElem_toArray, List.getElem_cons_zero, List.getElem_cons_succ, List.setIfInBounds_toArray, List.set_cons_zero, List.set_cons_succ]
          refine wpAnyH_take (i := 14) (v := ?_) rfl (by kernel_rfl) (by kernel_rfl) (by kernel_rfl) (fun _ _ _ h => h) (Or.inl ⟨by rfl, ?_⟩) (by assumption) ?_
          rotate_left
          · intro w _; go_simp; try with_reducible rfl
          try simp only [Act.put, List.getElem_toArray, List.getElem_cons_zero, List.getElem_cons_succ, List.setIfInBounds_toArray, List.set_cons_zero, List.set_cons_succ]
          refine wpAnyH_take (i := 15) (v := ?_) rfl (by kernel_rfl) (by kernel_rfl) (by kernel_rfl) (fun _ _ _ h => h) (Or.inl ⟨by rfl, ?_⟩) (by assumption) ?_
          rotate_left
          · intro w _; go_simp; try with_reducible rfl
          try simp only [Act.put, List.getElem_toArray, List.getElem_cons_zero, List.getElem_cons_succ, List.setIfInBounds_toArray, List.set_cons_zero, List.set_cons_succ]
          refine wpAnyH_take (i := 16) (v := ?_) rfl (by kernel_rfl) (by kernel_rfl) (by kernel_rfl) (fun _ _ _ h => h) (Or.inl ⟨by rfl, ?_⟩) (by assumption) ?_
          rotate_left
          · intro w _; go_simp; try with_reducible rfl
          try simp only [Act.put, List.getElem_toArray, List.getElem_cons_zero, List.getElem_cons_succ, List.setIfInBounds_toArray, List.set_cons_zero, List.set_cons_succ]
          refine wpAnyH_take (i := 17) (v := ?_) rfl (by kernel_rfl) (by kernel_rfl) (by kernel_rfl) (fun _ _ _ h => h) (Or.inl ⟨by rfl, ?_⟩) (by assumption) ?_
          rotate_left
          · intro w _; go_simp; try with_reducible rfl
          try simp only [Act.put, List.getElem_toArray, List.getElem_cons_zero, List.getElem_cons_succ, List.setIfInBounds_toArray, List.set_cons_zero, List.set_cons_succ]
          refine wpAnyH_take (i := 18) (v := ?_) rfl (by kernel_rfl) (by kernel_rfl) (by kernel_rfl) (fun _ _ _ h => h) (Or.inl ⟨by rfl, ?_⟩) (by assumption) ?_
          rotate_left
          · intro w _; go_simp; try with_reducible rfl
          try simp only [Act.put, List.getElem_toArray, List.getElem_cons_zero, List.getElem_cons_succ, List.setIfInBounds_toArray, List.set_cons_zero, List.set_cons_succ]
          refine wpAnyH_done (by kernel_rfl) ?_ _
          go_wp2_with fail
          go_meet
          exact ⟨⟨_, rfl, rfl⟩, hBe⟩
      case rest =>
        obtain ⟨⟨y9, rfl, rfl⟩, hB9⟩ := hcut
        obtain ⟨w9, rfl⟩ : ∃ V : World, V = wc := ⟨_, rfl⟩
        have s9 := hB9.size
        have KT9 := hide ((hB9.block _ lt8).trans KT8.out)
        have KG9 := hide ((hB9.block _ lg8).trans KG8.out)
        have KC9 := hide ((hB9.block _ lc8).trans KC8.out)
        replace KL := hide ((hB9.block _ (by omega)).trans KL.out)
        have HB9 := hide (bthen HB8.out hB9 HB8.out.size)
        clear lt8 lg8 lc8 KT8 KG8 KC8 HB8 hB9 KEEP i0_Ev hi_Ev hz0_Ev hz1_Ev hz2_Ev
        have lt9 := lt_blk KT9.out
        have lg9 := lt_blk KG9.out
        have lc9 := lt_blk KC9.out
        obtain ⟨i0_Ev, hi_Ev, hz0_Ev, hz1_Ev, hz2_Ev⟩ := info_parts info_Ev
        have KEEP := hide (show ∀ v, Below w9.heap.size w9 v → v.heap[w2.heap.size]? = some (.cells (tmC fast).toArray 73 (0, 0)) ∧ v.cell? ⟨w1.heap.size, 0, none⟩ = some (.int .i64 g.gr) ∧ v.cell? ⟨w1.heap.size, 1, none⟩ = some (.int .i64 g.bk) ∧ v.cell? ⟨w1.heap.size, 2, none⟩ = some (.int .i64 g.rw) ∧ v.cell? ⟨w1.heap.size, 3, none⟩ = some (.int .i64 g.cl) ∧ v.cell? ⟨w1.heap.size + 1, 1, none⟩ = some (.int .i64 cb) ∧ Below w9.heap.size w9 v from fun v hb =>
          have h1 := (hb.block _ lt9).trans KT9.out
          have h2 := (hb.block _ lg9).trans KG9.out
          have h3 := (hb.block _ lc9).trans KC9.out
          ⟨h1, cell_blk h2 0, cell_blk h2 1, cell_blk h2 2, cell_blk h2 3, cell_blk h3 1, hb⟩)
        go_upto_region 16 with fail
        go_cut [18, 19] (fun s0 s1 wx => (∃ y : Int, s0 = .int .i64 0 ∧ s1 = .int .i64 y) ∧ Below w9.heap.size w9 wx)
        case first =>
          refine wp_region_held_drew (S := fun v => v.heap[w2.heap.size]? = some (.cells (tmC fast).toArray 73 (0, 0)) ∧ v.cell? ⟨w1.heap.size, 0, none⟩ = some (.int .i64 g.gr) ∧ v.cell? ⟨w1.heap.size, 1, none⟩ = some (.int .i64 g.bk) ∧ v.cell? ⟨w1.heap.size, 2, none⟩ = some (.int .i64 g.rw) ∧ v.cell? ⟨w1.heap.size, 3, none⟩ = some (.int .i64 g.cl) ∧ v.cell? ⟨w1.heap.size + 1, 1, none⟩ = some (.int .i64 cb) ∧ Below w9.heap.size w9 v) (by kernel_rfl) (KEEP.out _ (Below.refl _ _).drew) (fun hSx => ?_)
          refine wpAnyH_take (i := 0) (v := ?_) rfl (by kernel_rfl) (by kernel_rfl) (by kernel_rfl) (fun _ _ _ h => h) (Or.inl ⟨by rfl, ?_⟩) (by assumption) ?_
          rotate_left
          · intro w hSw; (try dsimp only at hSw); go_simp; try with_reducible rfl
          try simp only [Act.put, List.getElem_toArray, List.getElem_cons_zero, List.getElem_cons_succ, List.setIfInBounds_toArray, List.set_cons_zero, List.set_cons_succ]
          refine wpAnyH_take (i := 1) rfl (by kernel_rfl) (by kernel_rfl) (by kernel_rfl) (fun _ _ _ h => h) (yieldsIf_load_row (by rfl) 73 _ rfl w2.heap.size rfl 73 ((tmC fast).toArray) (0, 0) _ (fun _ h => h.1) Try.underlying73 (tmC_info fast)) (by assumption) ?_
          try simp only [Act.put, List.getElem_toArray, List.getElem_cons_zero, List.getElem_cons_succ, List.setIfInBounds_toArray, List.set_cons_zero, List.set_cons_succ]
          refine wpAnyH_take (i := 3) (v := ?_) rfl (by kernel_rfl) (by kernel_rfl) (by kernel_rfl) (fun _ _ _ h => h) (Or.inl ⟨by rfl, ?_⟩) (by assumption) ?_
          rotate_left
          · intro w _; go_simp; try with_reducible rfl
          try simp only [Act.put, List.getElem_toArray, List.getElem_cons_zero, List.getElem_cons_succ, List.setIfInBounds_toArray, List.set_cons_zero, List.set_cons_succ]
          refine wpAnyH_take (i := 5) (v := ?_) rfl (by kernel_rfl) (by kernel_rfl) (by kernel_rfl) (fun _ _ _ h => h) (Or.inl ⟨by rfl, ?_⟩) (by assumption) ?_
          rotate_left
          · intro w _; go_simp; try with_reducible rfl
          try simp only [Act.put, List.getElem_toArray, List.getElem_cons_zero, List.getElem_cons_succ, List.setIfInBounds_toArray, List.set_cons_zero, List.set_cons_succ]
          refine wpAnyH_take (i := 6) (v := ?_) rfl (by kernel_rfl) (by kernel_rfl) (by kernel_rfl) (fun _ _ _ h => h) (Or.inl ⟨by rfl, ?_⟩) (by assumption) ?_
          rotate_left
          · intro w _; go_simp; try with_reducible rfl
          try simp only [Act.put, List.getElem_toArray, List.getElem_cons_zero, List.getElem_cons_succ, List.setIfInBounds_toArray, List.set_cons_zero, List.set_cons_succ]
          refine wpAnyH_take (i := 7) (v := ?_) rfl (by kernel_rfl) (by kernel_rfl) (by kernel_rfl) (fun _ _ _ h => h) (Or.inl ⟨by rfl, ?_⟩) (by assumption) ?_
          rotate_left
          · intro w hSw; (try dsimp only at hSw); go_simp; try with_reducible rfl
          try simp only [Act.put, List.getElem_toArray, List.getElem_cons_zero, List.getElem_cons_succ, List.setIfInBounds_toArray, List.set_cons_zero, List.set_cons_succ]
          refine wpAnyH_take (i := 8) (v := ?_) rfl (by kernel_rfl) (by kernel_rfl) (by kernel_rfl) (fun _ _ _ h => h) (Or.inl ⟨by rfl, ?_⟩) (by assumption) ?_
          rotate_left
          · intro w _; go_simp; try with_reducible rfl
          try simp only [Act.put, List.getElem_toArray, List.getElem_cons_zero, List.getElem_cons_succ, List.setIfInBounds_toArray, List.set_cons_zero, List.set_cons_succ]
          refine wpAnyH_take (i := 9) (v := ?_) rfl (by kernel_rfl) (by kernel_rfl) (by kernel_rfl) (fun _ _ _ h => h) (Or.inl ⟨by rfl, ?_⟩) (by assumption) ?_
          rotate_left
          · intro w _; go_simp; try with_reducible rfl
          try simp only [Act.put, List.getElem_toArray, List.getElem_cons_zero, List.getElem_cons_succ, List.setIfInBounds_toArray, List.set_cons_zero, List.set_cons_succ]
          refine wpAnyH_ready (rs := [2, 10]) (by kernel_rfl) (by simp) ?_
          refine AllReadyH.cons rfl (fun K hK => ?_) (AllReadyH.cons rfl (fun K hK => ?_) AllReadyH.nil)
          · go_simp
            (refine hK.out _ _ (KEEP.out _ ((Below.alloc (Below.refl _ _) (Nat.le_refl _) _).drew)) (fun hSy => ?_))
            clear hK K
            have hSx := hSy; clear hSy
            try simp only [Act.put, List.getElem_toArray, List.getElem_cons_zero, List.getElem_cons_succ, List.setIfInBounds_toArray, List.set_cons_zero, List.set_cons_succ]
            refine wpAnyH_ready (rs := [4, 10]) (by kernel_rfl) (by simp) ?_
            refine AllReadyH.cons rfl (fun K hK => ?_) (AllReadyH.cons rfl (fun K hK => ?_) AllReadyH.nil)
            · refine step_append_lies _ (by rfl) _ _ _ (by rfl) w9.heap.size 100 i0_Ev _ 5 40 Try.underlying76 hi_Ev hz0_Ev hz1_Ev hz2_Ev rfl (by omega) _ 0 _ (by rfl) (((own_made_at rfl (Nat.le_refl _)).drew)) ⟨w7.heap.size, 0, none⟩ 2 2 [.int .i64 P1, .int .i64 6, .int .i64 0, .int .i64 0, .int .i64 0, .int .i64 lv, .int .i64 7, .int .i64 0, .int .i64 0, .int .i64 0] (by rfl) (by rfl) (World.news_of_block (cs := #[.int .i64 P1, .int .i64 6, .int .i64 0, .int .i64 0, .int .i64 0, .int .i64 lv, .int .i64 7, .int .i64 0, .int .i64 0, .int .i64 0]) (t := 100) (fr := (0, 0)) (show ((World.drew (World.alloc w9 (.cells #[] 100)))).heap[w7.heap.size]? = some (.cells #[.int .i64 P1, .int .i64 6, .int .i64 0, .int .i64 0, .int .i64 0, .int .i64 lv, .int .i64 7, .int .i64 0, .int .i64 0, .int .i64 0] 100 (0, 0)) from (alloc_lt _ _ _ (by omega)).trans KL.out)) (List.all_eq_true.1 rfl) (by omega) (by unfold maxLen; omega) (by omega) (by first | go_size | (simp; omega)) _ rfl ?_
              intro gb qb Vb hownb hgb hatb hltb
              simp only [Nat.zero_add, List.nil_append] at hownb ⊢
              have hBb : Below w9.heap.size w9 Vb := ((Below.alloc (Below.refl _ _) (Nat.le_refl _) _).drew).grown hgb (by simp) (fun k hk => by have := Option.some.inj (show some w9.heap.size = some k from hk); omega)
              have sb := hgb.size; simp only [World.size_alloc, World.size_drew] at sb
              (refine hK.out _ _ (KEEP.out _ (hBb)) (fun hSy => ?_))
              clear hK K
              have hSx := hSy; clear hSy
              try simp only [Act.put, List.getElem_toArray, List.getElem_cons_zero, List.getElem_cons_succ, List.setIfInBounds_toArray, List.set_cons_zero, List.set_cons_succ]
              refine wpAnyH_ready (rs := [10]) (by kernel_rfl) (by simp) ?_
              refine AllReadyH.cons rfl (fun K hK => ?_) AllReadyH.nil
              go_simp
              (refine hK.out _ _ (KEEP.out _ (hBb.alloc (by omega) _)) (fun hSy => ?_))
              clear hK K
              have hSx := hSy; clear hSy
              try simp only [Act.put, List.getElem_toArray, List.getElem_cons_zero, List.getElem_cons_succ, List.setIfInBounds_toArray, List.set_cons_zero, List.set_cons_succ]
              refine wpAnyH_ready (rs := [11]) (by kernel_rfl) (by simp) ?_
              refine AllReadyH.cons rfl (fun K hK => ?_) AllReadyH.nil
              refine step_append_lies _ (by rfl) _ _ _ (by rfl) w9.heap.size 100 i0_Ev _ 5 40 Try.underlying76 hi_Ev hz0_Ev hz1_Ev hz2_Ev rfl (by omega) _ 2 _ (by rfl) (hownb.alloc _) ⟨Vb.heap.size, 0, none⟩ 1 1 [.int .i64 z, .int .i64 5, .int .i64 cb, .int .i64 0, .int .i64 0] (by rfl) (by rfl) (World.news_of_block (cs := #[.int .i64 z, .int .i64 5, .int .i64 cb, .int .i64 0, .int .i64 0]) (t := 100) (fr := (0, 0)) (alloc_at _ _ _ rfl)) (List.all_eq_true.1 rfl) (by omega) (by unfold maxLen; omega) (by omega) (by first | go_size | (simp; omega)) _ rfl ?_
              intro gd qd Vd hownd hgd hatd hltd
              simp only [Nat.reduceAdd] at hownd ⊢
              have hBd : Below w9.heap.size w9 Vd := (hBb.alloc (by omega) _).grown hgd (by simp; omega) (fun k hk => by have := (hownb.lt k hk).1; omega)
              have sd := hBd.size
              (refine hK.out _ _ (KEEP.out _ (hBd)) (fun hSy => ?_))
              clear hK K
              have hSx := hSy; clear hSy
              try simp only [Act.put, List.getElem_toArray, List.getElem_cons_zero, List.getElem_cons_succ, List.setIfInBounds_toArray, List.set_cons_zero, List.set_cons_succ]
              refine wpAnyH_ready (rs := [12]) (by kernel_rfl) (by simp) ?_
              refine AllReadyH.cons rfl (fun K hK => ?_) AllReadyH.nil
              go_simp
              refine (spec_TraceFault_3 g 6 P1 now z cb (some ⟨gd, 0, none⟩) qd nb _ (isStructs_own (B := w9.heap.size) (E := 100) evF_len (by omega) (by rw [wk3, HLV.out]; exact hownd)) HG.out HNB.out (.inl rfl) HPN.out.1 HPN.out.2 (by rw [HZ.out]) HCB.out).mono ?_
              rintro ex Ve ⟨⟨ye, rfl⟩, hye⟩
              have hBe : Below w9.heap.size w9 Ve := bthen hBd hye sd
              (refine hK.out _ _ (KEEP.out _ (hBe)) (fun hSy => ?_))
              clear hK K
              have hSx := hSy; clear hSy
              try simp only [Act.put, List.getElem_toArray, List.getElem_cons_zero, List.getElem_cons_succ, List.setIfInBounds_toArray, List.set_cons_zero, List.set_cons_succ]
              refine wpAnyH_take (i := 13) (v := ?_) rfl (by kernel_rfl) (by kernel_rfl) (by kernel_rfl) (fun _ _ _ h => h) (Or.inl ⟨by rfl, ?_⟩) (by assumption) ?_
              rotate_left
              · intro w _; go_simp; try with_reducible rfl
              try simp only [Act.put, List.getElem_toArray, List.getElem_cons_zero, List.getElem_cons_succ, List.setIfInBounds_toArray, List.set_cons_zero, List.set_cons_succ]
              refine wpAnyH_take (i := 14) (v := ?_) rfl (by kernel_rfl) (by kernel_rfl) (by kernel_rfl) (fun _ _ _ h => h) (Or.inl ⟨by rfl, ?_⟩) (by assumption) ?_
              rotate_left
              · intro w _; go_simp; try with_reducible rfl
              try simp only [Act.put, List.getElem_toArray, List.getElem_cons_zero, List.getElem_cons_succ, List.setIfInBounds_toArray, List.set_cons_zero, List.set_cons_succ]
              refine wpAnyH_take (i := 15) (v := ?_) rfl (by kernel_rfl) (by kernel_rfl) (by kernel_rfl) (fun _ _ _ h => h) (Or.inl ⟨by rfl, ?_⟩) (by assumption) ?_
              rotate_left
              · intro w _; go_simp; try with_reducible rfl
              try simp only [Act.put, List.getElem_toArray, List.getElem_cons_zero, List.getElem_cons_succ, List.setIfInBounds_toArray, List.set_cons_zero, List.set_cons_succ]
              refine wpAnyH_take (i := 16) (v := ?_) rfl (by kernel_rfl) (by kernel_rfl) (by kernel_rfl) (fun _ _ _ h => h) (Or.inl ⟨by rfl, ?_⟩) (by assumption) ?_
              rotate_left
              · intro w _; go_simp; try with_reducible rfl
              try simp only [Act.put, List.getElem_toArray, List.getElem_cons_zero, List.getElem_cons_succ, List.setIfInBounds_toArray, List.set_cons_zero, List.set_cons_succ]
              refine wpAnyH_take (i := 17) (v := ?_) rfl (by kernel_rfl) (by kernel_rfl) (by kernel_rfl) (fun _ _ _ h => h) (Or.inl ⟨by rfl, ?_⟩) (by assumption) ?_
              rotate_left
              · intro w _; go_simp; try with_reducible rfl
              try simp only [Act.put, List.getElem_toArray, List.getElem_cons_zero, List.getElem_cons_succ, List.setIfInBounds_toArray, List.set_cons_zero, List.set_cons_succ]
              refine wpAnyH_done (by kernel_rfl) ?_ _
              go_wp2_with fail
              go_meet
              exact ⟨⟨_, rfl, rfl⟩, hBe⟩
            · go_simp
              (refine hK.out _ _ (KEEP.out _ (((Below.alloc (Below.refl _ _) (Nat.le_refl _) _).alloc (by simp) _).drew)) (fun hSy => ?_))
              clear hK K
              have hSx := hSy; clear hSy
              try simp only [Act.put, List.getElem_toArray, List.getElem_cons_zero, List.getElem_cons_succ, List.setIfInBounds_toArray, List.set_cons_zero, List.set_cons_succ]
              refine wpAnyH_ready (rs := [4]) (by kernel_rfl) (by simp) ?_
              refine AllReadyH.cons rfl (fun K hK => ?_) AllReadyH.nil
              refine step_append_lies _ (by rfl) _ _ _ (by rfl) w9.heap.size 100 i0_Ev _ 5 40 Try.underlying76 hi_Ev hz0_Ev hz1_Ev hz2_Ev rfl (by omega) _ 0 _ (by rfl) ((((own_made_at rfl (Nat.le_refl _)).alloc _).drew)) ⟨w7.heap.size, 0, none⟩ 2 2 [.int .i64 P1, .int .i64 6, .int .i64 0, .int .i64 0, .int .i64 0, .int .i64 lv, .int .i64 7, .int .i64 0, .int .i64 0, .int .i64 0] (by rfl) (by rfl) (World.news_of_block (cs := #[.int .i64 P1, .int .i64 6, .int .i64 0, .int .i64 0, .int .i64 0, .int .i64 lv, .int .i64 7, .int .i64 0, .int .i64 0, .int .i64 0]) (t := 100) (fr := (0, 0)) (show ((World.drew (World.alloc (World.alloc w9 (.cells #[] 100)) (.cells #[.int .i64 z, .int .i64 5, .int .i64 cb, .int .i64 0, .int .i64 0] 100)))).heap[w7.heap.size]? = some (.cells #[.int .i64 P1, .int .i64 6, .int .i64 0, .int .i64 0, .int .i64 0, .int .i64 lv, .int .i64 7, .int .i64 0, .int .i64 0, .int .i64 0] 100 (0, 0)) from (alloc_lt _ _ _ (by simp; omega)).trans ((alloc_lt _ _ _ (by omega)).trans KL.out))) (List.all_eq_true.1 rfl) (by omega) (by unfold maxLen; omega) (by omega) (by first | go_size | (simp; omega)) _ rfl ?_
              intro gb qb Vb hownb hgb hatb hltb
              simp only [Nat.zero_add, List.nil_append] at hownb ⊢
              have hBb : Below w9.heap.size w9 Vb := (((Below.alloc (Below.refl _ _) (Nat.le_refl _) _).alloc (by simp) _).drew).grown hgb (by simp; omega) (fun k hk => by have := Option.some.inj (show some (w9.heap.size) = some k from hk); (try simp only [World.size_alloc] at this); omega)
              have sb := hgb.size; simp only [World.size_alloc, World.size_drew] at sb
              have kc : Vb.heap[w9.heap.size + 1]? = some (.cells #[.int .i64 z, .int .i64 5, .int .i64 cb, .int .i64 0, .int .i64 0] 100 (0, 0)) := (hgb.block _ (by simp only [World.size_drew, World.size_alloc]; omega) (fun h => by have := Option.some.inj (show some (w9.heap.size + 1) = some (w9.heap.size) from h); (try simp only [World.size_alloc] at this); omega)).trans (alloc_at _ _ _ (by simp))
              (refine hK.out _ _ (KEEP.out _ (hBb)) (fun hSy => ?_))
              clear hK K
              have hSx := hSy; clear hSy
              try simp only [Act.put, List.getElem_toArray, List.getElem_cons_zero, List.getElem_cons_succ, List.setIfInBounds_toArray, List.set_cons_zero, List.set_cons_succ]
              refine wpAnyH_ready (rs := [11]) (by kernel_rfl) (by simp) ?_
              refine AllReadyH.cons rfl (fun K hK => ?_) AllReadyH.nil
              refine step_append_lies _ (by rfl) _ _ _ (by rfl) w9.heap.size 100 i0_Ev _ 5 40 Try.underlying76 hi_Ev hz0_Ev hz1_Ev hz2_Ev rfl (by omega) _ 2 _ (by rfl) (hownb) ⟨w9.heap.size + 1, 0, none⟩ 1 1 [.int .i64 z, .int .i64 5, .int .i64 cb, .int .i64 0, .int .i64 0] (by rfl) (by rfl) (World.news_of_block (cs := #[.int .i64 z, .int .i64 5, .int .i64 cb, .int .i64 0, .int .i64 0]) (t := 100) (fr := (0, 0)) kc) (List.all_eq_true.1 rfl) (by omega) (by unfold maxLen; omega) (by omega) (by first | go_size | (simp; omega)) _ rfl ?_
              intro gd qd Vd hownd hgd hatd hltd
              simp only [Nat.reduceAdd] at hownd ⊢
              have hBd : Below w9.heap.size w9 Vd := hBb.grown hgd (by omega) (fun k hk => by have := (hownb.lt k hk).1; omega)
              have sd := hBd.size
              (refine hK.out _ _ (KEEP.out _ (hBd)) (fun hSy => ?_))
              clear hK K
              have hSx := hSy; clear hSy
              try simp only [Act.put, List.getElem_toArray, List.getElem_cons_zero, List.getElem_cons_succ, List.setIfInBounds_toArray, List.set_cons_zero, List.set_cons_succ]
              refine wpAnyH_ready (rs := [12]) (by kernel_rfl) (by simp) ?_
              refine AllReadyH.cons rfl (fun K hK => ?_) AllReadyH.nil
              go_simp
              refine (spec_TraceFault_3 g 6 P1 now z cb (some ⟨gd, 0, none⟩) qd nb _ (isStructs_own (B := w9.heap.size) (E := 100) evF_len (by omega) (by rw [wk3, HLV.out]; exact hownd)) HG.out HNB.out (.inl rfl) HPN.out.1 HPN.out.2 (by rw [HZ.out]) HCB.out).mono ?_
              rintro ex Ve ⟨⟨ye, rfl⟩, hye⟩
              have hBe : Below w9.heap.size w9 Ve := bthen hBd hye sd
              (refine hK.out _ _ (KEEP.out _ (hBe)) (fun hSy => ?_))
              clear hK K
              have hSx := hSy; clear hSy
              try simp only [Act.put, List.getElem_toArray, List.getElem_cons_zero, List.getElem_cons_succ, List.setIfInBounds_toArray, List.set_cons_zero, List.set_cons_succ]
              refine wpAnyH_take (i := 13) (v := ?_) rfl (by kernel_rfl) (by kernel_rfl) (by kernel_rfl) (fun _ _ _ h => h) (Or.inl ⟨by rfl, ?_⟩) (by assumption) ?_
              rotate_left
              · intro w _; go_simp; try with_reducible rfl
              try simp only [Act.put, List.getElem_toArray, List.getElem_cons_zero, List.getElem_cons_succ, List.setIfInBounds_toArray, List.set_cons_zero, List.set_cons_succ]
              refine wpAnyH_take (i := 14) (v := ?_) rfl (by kernel_rfl) (by kernel_rfl) (by kernel_rfl) (fun _ _ _ h => h) (Or.inl ⟨by rfl, ?_⟩) (by assumption) ?_
              rotate_left
              · intro w _; go_simp; try with_reducible rfl
              try simp only [Act.put, List.getElem_toArray, List.getElem_cons_zero, List.getElem_cons_succ, List.setIfInBounds_toArray, List.set_cons_zero, List.set_cons_succ]
              refine wpAnyH_take (i := 15) (v := ?_) rfl (by kernel_rfl) (by kernel_rfl) (by kernel_rfl) (fun _ _ _ h => h) (Or.inl ⟨by rfl, ?_⟩) (by assumption) ?_
              rotate_left
              · intro w _; go_simp; try with_reducible rfl
              try simp only [Act.put, List.getElem_toArray, List.getElem_cons_zero, List.getElem_cons_succ, List.setIfInBounds_toArray, List.set_cons_zero, List.set_cons_succ]
              refine wpAnyH_take (i := 16) (v := ?_) rfl (by kernel_rfl) (by kernel_rfl) (by kernel_rfl) (fun _ _ _ h => h) (Or.inl ⟨by rfl, ?_⟩) (by assumption) ?_
              rotate_left
              · intro w _; go_simp; try with_reducible rfl
              try simp only [Act.put, List.getElem_toArray, List.getElem_cons_zero, List.getElem_cons_succ, List.setIfInBounds_toArray, List.set_cons_zero, List.set_cons_succ]
              refine wpAnyH_take (i := 17) (v := ?_) rfl (by kernel_rfl) (by kernel_rfl) (by kernel_rfl) (fun _ _ _ h => h) (Or.inl ⟨by rfl, ?_⟩) (by assumption) ?_
              rotate_left
              · intro w _; go_simp; try with_reducible rfl
              try simp only [Act.put, List.getElem_toArray, List.getElem_cons_zero, List.getElem_cons_succ, List.setIfInBounds_toArray, List.set_cons_zero, List.set_cons_succ]
              refine wpAnyH_done (by kernel_rfl) ?_ _
              go_wp2_with fail
              go_meet
              exact ⟨⟨_, rfl, rfl⟩, hBe⟩
          · go_simp
            (refine hK.out _ _ (KEEP.out _ ((Below.alloc (Below.refl _ _) (Nat.le_refl _) _).drew)) (fun hSy => ?_))
            clear hK K
            have hSx := hSy; clear hSy
            try simp only [Act.put, List.getElem_toArray, List.getElem_cons_zero, List.getElem_cons_succ, List.setIfInBounds_toArray, List.set_cons_zero, List.set_cons_succ]
            refine wpAnyH_ready (rs := [2]) (by kernel_rfl) (by simp) ?_
            refine AllReadyH.cons rfl (fun K hK => ?_) AllReadyH.nil
            go_simp
            (refine hK.out _ _ (KEEP.out _ (((Below.alloc (Below.refl _ _) (Nat.le_refl _) _).alloc (by simp) _).drew)) (fun hSy => ?_))
            clear hK K
            have hSx := hSy; clear hSy
            try simp only [Act.put, List.getElem_toArray, List.getElem_cons_zero, List.getElem_cons_succ, List.setIfInBounds_toArray, List.set_cons_zero, List.set_cons_succ]
            refine wpAnyH_ready (rs := [4]) (by kernel_rfl) (by simp) ?_
            refine AllReadyH.cons rfl (fun K hK => ?_) AllReadyH.nil
            refine step_append_lies _ (by rfl) _ _ _ (by rfl) w9.heap.size 100 i0_Ev _ 5 40 Try.underlying76 hi_Ev hz0_Ev hz1_Ev hz2_Ev rfl (by omega) _ 0 _ (by rfl) (((own_made_at (by simp) (by simp)).drew)) ⟨w7.heap.size, 0, none⟩ 2 2 [.int .i64 P1, .int .i64 6, .int .i64 0, .int .i64 0, .int .i64 0, .int .i64 lv, .int .i64 7, .int .i64 0, .int .i64 0, .int .i64 0] (by rfl) (by rfl) (World.news_of_block (cs := #[.int .i64 P1, .int .i64 6, .int .i64 0, .int .i64 0, .int .i64 0, .int .i64 lv, .int .i64 7, .int .i64 0, .int .i64 0, .int .i64 0]) (t := 100) (fr := (0, 0)) (show ((World.drew (World.alloc (World.alloc w9 (.cells #[.int .i64 z, .int .i64 5, .int .i64 cb, .int .i64 0, .int .i64 0] 100)) (.cells #[] 100)))).heap[w7.heap.size]? = some (.cells #[.int .i64 P1, .int .i64 6, .int .i64 0, .int .i64 0, .int .i64 0, .int .i64 lv, .int .i64 7, .int .i64 0, .int .i64 0, .int .i64 0] 100 (0, 0)) from (alloc_lt _ _ _ (by simp; omega)).trans ((alloc_lt _ _ _ (by omega)).trans KL.out))) (List.all_eq_true.1 rfl) (by omega) (by unfold maxLen; omega) (by omega) (by first | go_size | (simp; omega)) _ rfl ?_
            intro gb qb Vb hownb hgb hatb hltb
            simp only [Nat.zero_add, List.nil_append] at hownb ⊢
            have hBb : Below w9.heap.size w9 Vb := (((Below.alloc (Below.refl _ _) (Nat.le_refl _) _).alloc (by simp) _).drew).grown hgb (by simp; omega) (fun k hk => by have := Option.some.inj (show some (w9.heap.size + 1) = some k from hk); (try simp only [World.size_alloc] at this); omega)
            have sb := hgb.size; simp only [World.size_alloc, World.size_drew] at sb
            have kc : Vb.heap[w9.heap.size]? = some (.cells #[.int .i64 z, .int .i64 5, .int .i64 cb, .int .i64 0, .int .i64 0] 100 (0, 0)) := (hgb.block _ (by simp only [World.size_drew, World.size_alloc]; omega) (fun h => by have := Option.some.inj (show some (w9.heap.size) = some (w9.heap.size + 1) from h); (try simp only [World.size_alloc] at this); omega)).trans ((alloc_lt _ _ _ (by simp)).trans (alloc_at _ _ _ rfl))
            (refine hK.out _ _ (KEEP.out _ (hBb)) (fun hSy => ?_))
            clear hK K
            have hSx := hSy; clear hSy
            try simp only [Act.put, List.getElem_toArray, List.getElem_cons_zero, List.getElem_cons_succ, List.setIfInBounds_toArray, List.set_cons_zero, List.set_cons_succ]
            refine wpAnyH_ready (rs := [11]) (by kernel_rfl) (by simp) ?_
            refine AllReadyH.cons rfl (fun K hK => ?_) AllReadyH.nil
            refine step_append_lies _ (by rfl) _ _ _ (by rfl) w9.heap.size 100 i0_Ev _ 5 40 Try.underlying76 hi_Ev hz0_Ev hz1_Ev hz2_Ev rfl (by omega) _ 2 _ (by rfl) (hownb) ⟨w9.heap.size, 0, none⟩ 1 1 [.int .i64 z, .int .i64 5, .int .i64 cb, .int .i64 0, .int .i64 0] (by rfl) (by rfl) (World.news_of_block (cs := #[.int .i64 z, .int .i64 5, .int .i64 cb, .int .i64 0, .int .i64 0]) (t := 100) (fr := (0, 0)) kc) (List.all_eq_true.1 rfl) (by omega) (by unfold maxLen; omega) (by omega) (by first | go_size | (simp; omega)) _ rfl ?_
            intro gd qd Vd hownd hgd hatd hltd
            simp only [Nat.reduceAdd] at hownd ⊢
            have hBd : Below w9.heap.size w9 Vd := hBb.grown hgd (by omega) (fun k hk => by have := (hownb.lt k hk).1; omega)
            have sd := hBd.size
            (refine hK.out _ _ (KEEP.out _ (hBd)) (fun hSy => ?_))
            clear hK K
            have hSx := hSy; clear hSy
            try simp only [Act.put, List.getElem_toArray, List.getElem_cons_zero, List.getElem_cons_succ, List.setIfInBounds_toArray, List.set_cons_zero, List.set_cons_succ]
            refine wpAnyH_ready (rs := [12]) (by kernel_rfl) (by simp) ?_
            refine AllReadyH.cons rfl (fun K hK => ?_) AllReadyH.nil
            go_simp
            refine (spec_TraceFault_3 g 6 P1 now z cb (some ⟨gd, 0, none⟩) qd nb _ (isStructs_own (B := w9.heap.size) (E := 100) evF_len (by omega) (by rw [wk3, HLV.out]; exact hownd)) HG.out HNB.out (.inl rfl) HPN.out.1 HPN.out.2 (by rw [HZ.out]) HCB.out).mono ?_
            rintro ex Ve ⟨⟨ye, rfl⟩, hye⟩
            have hBe : Below w9.heap.size w9 Ve := bthen hBd hye sd
            (refine hK.out _ _ (KEEP.out _ (hBe)) (fun hSy => ?_))
            clear hK K
            have hSx := hSy; clear hSy
            try simp only [Act.put, List.getElem_toArray, List.getElem_cons_zero, List.getElem_cons_succ, List.setIfInBounds_toArray, List.set_cons_zero, List.set_cons_succ]
            refine wpAnyH_take (i := 13) (v := ?_) rfl (by kernel_rfl) (by kernel_rfl) (by kernel_rfl) (fun _ _ _ h => h) (Or.inl ⟨by rfl, ?_⟩) (by assumption) ?_
            rotate_left
            · intro w _; go_simp; try with_reducible rfl
            try simp only [Act.put, List.getElem_toArray, List.getElem_cons_zero, List.getElem_cons_succ, List.setIfInBounds_toArray, List.set_cons_zero, List.set_cons_succ]
            refine wpAnyH_take (i := 14) (v := ?_) rfl (by kernel_rfl) (by kernel_rfl) (by kernel_rfl) (fun _ _ _ h => h) (Or.inl ⟨by rfl, ?_⟩) (by assumption) ?_
            rotate_left
            · intro w _; go_simp; try with_reducible rfl
            try simp only [Act.put, List.getElem_toArray, List.getElem_cons_zero, List.getElem_cons_succ, List.setIfInBounds_toArray, List.set_cons_zero, List.set_cons_succ]
            refine wpAnyH_take (i := 15) (v := ?_) rfl (by kernel_rfl) (by kernel_rfl) (by kernel_rfl) (fun _ _ _ h => h) (Or.inl ⟨by rfl, ?_⟩) (by assumption) ?_
            rotate_left
            · intro w _; go_simp; try with_reducible rfl
            try simp only [Act.put, List.getElem_toArray, List.getElem_cons_zero, List.getElem_cons_succ, List.setIfInBounds_toArray, List.set_cons_zero, List.set_cons_succ]
            refine wpAnyH_take (i := 16) (v := ?_) rfl (by kernel_rfl) (by kernel_rfl) (by kernel_rfl) (fun _ _ _ h => h) (Or.inl ⟨by rfl, ?_⟩) (by assumption) ?_
            rotate_left
            · intro w _; go_simp; try with_reducible rfl
            try simp only [Act.put, List.getElem_toArray, List.getElem_cons_zero, List.getElem_cons_succ, List.setIfInBounds_toArray, List.set_cons_zero, List.set_cons_succ]
            refine wpAnyH_take (i := 17) (v := ?_) rfl (by kernel_rfl) (by kernel_rfl) (by kernel_rfl) (fun _ _ _ h => h) (Or.inl ⟨by rfl, ?_⟩) (by assumption) ?_
            rotate_left
            · intro w _; go_simp; try with_reducible rfl
            try simp only [Act.put, List.getElem_toArray, List.getElem_cons_zero, List.getElem_cons_succ, List.setIfInBounds_toArray, List.set_cons_zero, List.set_cons_succ]
            refine wpAnyH_done (by kernel_rfl) ?_ _
            go_wp2_with fail
            go_meet
            exact ⟨⟨_, rfl, rfl⟩, hBe⟩
        case rest =>
          obtain ⟨⟨y10, rfl, rfl⟩, hB10⟩ := hcut
          obtain ⟨w10, rfl⟩ : ∃ V : World, V = wc := ⟨_, rfl⟩
          have KT10 := hide ((hB10.block _ lt9).trans KT9.out)
          have HB10 := hide (bthen HB9.out hB10 HB9.out.size)
          clear lt9 lg9 lc9 KT9 KG9 KC9 HB9 hB10 KEEP i0_Ev hi_Ev hz0_Ev hz1_Ev hz2_Ev
          go_wp2_with (refine wpList_load_on (by rfl) 73 _ rfl w2.heap.size rfl 73 (tmC fast).toArray (0, 0) _ KT10.out Try.underlying73 (tmC_info fast) ?_)
          refine (wake1 now (by omega) _).mono ?_
          rintro e w11 ⟨rfl, h11⟩
          go_wp2_with fail
          go_ret
          exact ⟨rfl, bthen HB10.out h11 HB10.out.size⟩
    · have wz1 : IntKind.i64.wrap (z - 16) = lv := (IntWalk.i64_in _ (by omega)).trans hlz
      have wz0 : IntKind.i64.wrap (z - 4) = z - 4 := IntWalk.i64_in _ (by omega)
      go_wp2_with (first | (refine wpList_load_row rfl 73 _ rfl w2.heap.size rfl 73 (tmC fast).toArray (0, 0) _ (HT8.out _) Try.underlying73 rfl (tmC_info fast) ?_))
      have kl8 := alloc_at w7 (.cells #[.int .i64 P1, .int .i64 8, .int .i64 0, .int .i64 0, .int .i64 0, .int .i64 lv, .int .i64 (8 + 1), .int .i64 0, .int .i64 0, .int .i64 0] 100) _ rfl
      refine (spec_TraceFault_2 g 8 P1 now _ 2 nb _ (wk2_row HLV.out kl8) HG.out HNB.out (.inr rfl) HPN.out.1 HPN.out.2).mono ?_
      rintro e w8 ⟨⟨x8, rfl⟩, h8⟩
      have hB8 : Below w7.heap.size w7 w8 := bthen (Below.alloc (Below.refl _ _) (Nat.le_refl _) _) h8 (by simp)
      have s8 := h8.size
      simp only [World.size_alloc] at s8
      have KL := hide (show w8.heap[w7.heap.size]? = some (.cells #[.int .i64 P1, .int .i64 8, .int .i64 0, .int .i64 0, .int .i64 0, .int .i64 lv, .int .i64 9, .int .i64 0, .int .i64 0, .int .i64 0] 100 (0, 0)) from (h8.block _ (by simp)).trans kl8)
      have KT8 := hide ((hB8.block _ lt7).trans KT7.out)
      have KG8 := hide ((hB8.block _ lg7).trans KG7.out)
      have KC8 := hide ((hB8.block _ (lt_blk KC7.out)).trans KC7.out)
      have HB8 := hide (bthen HB7.out hB8 HB7.out.size)
      clear e0 e1 e2 e3 lg7 lt7 ng7 HT8 KT7 KG7 KC7 HB7 h8 hB8 kl8 t15 t16 g_p1
      have lt8 := lt_blk KT8.out
      have lg8 := lt_blk KG8.out
      have lc8 := lt_blk KC8.out
      obtain ⟨i0_Ev, hi_Ev, hz0_Ev, hz1_Ev, hz2_Ev⟩ := info_parts info_Ev
      have KEEP := hide (show ∀ v, Below w8.heap.size w8 v → v.heap[w2.heap.size]? = some (.cells (tmC fast).toArray 73 (0, 0)) ∧ v.cell? ⟨w1.heap.size, 0, none⟩ = some (.int .i64 g.gr) ∧ v.cell? ⟨w1.heap.size, 1, none⟩ = some (.int .i64 g.bk) ∧ v.cell? ⟨w1.heap.size, 2, none⟩ = some (.int .i64 g.rw) ∧ v.cell? ⟨w1.heap.size, 3, none⟩ = some (.int .i64 g.cl) ∧ v.cell? ⟨w1.heap.size + 1, 1, none⟩ = some (.int .i64 cb) ∧ Below w8.heap.size w8 v from fun v hb =>
        have h1 := (hb.block _ lt8).trans KT8.out
        have h2 := (hb.block _ lg8).trans KG8.out
        have h3 := (hb.block _ lc8).trans KC8.out
        ⟨h1, cell_blk h2 0, cell_blk h2 1, cell_blk h2 2, cell_blk h2 3, cell_blk h3 1, hb⟩)
      have wz : IntKind.i64.wrap (z - 1) = z - 1 := IntWalk.i64_in _ (by omega)
      go_upto_region 15 with fail
      go_cut [16, 17] (fun s0 s1 wx => (∃ y : Int, s0 = .int .i64 3 ∧ s1 = .int .i64 y) ∧ Below w8.heap.size w8 wx)
      case first =>
        refine wp_region_held_drew (S := fun v => v.heap[w2.heap.size]? = some (.cells (tmC fast).toArray 73 (0, 0)) ∧ v.cell? ⟨w1.heap.size, 0, none⟩ = some (.int .i64 g.gr) ∧ v.cell? ⟨w1.heap.size, 1, none⟩ = some (.int .i64 g.bk) ∧ v.cell? ⟨w1.heap.size, 2, none⟩ = some (.int .i64 g.rw) ∧ v.cell? ⟨w1.heap.size, 3, none⟩ = some (.int .i64 g.cl) ∧ v.cell? ⟨w1.heap.size + 1, 1, none⟩ = some (.int .i64 cb) ∧ Below w8.heap.size w8 v) (by kernel_rfl) (KEEP.out _ (Below.refl _ _).drew) (fun hSx => ?_)
        refine wpAnyH_take (i := 0) (v := ?_) rfl (by kernel_rfl) (by kernel_rfl) (by kernel_rfl) (fun _ _ _ h => h) (Or.inl ⟨by rfl, ?_⟩) (by assumption) ?_
        rotate_left
        · intro w hSw; (try dsimp only at hSw); go_simp; try with_reducible rfl
        try simp only [Act.put, List.getElem_toArray, List.getElem_cons_zero, List.getElem_cons_succ, List.setIfInBounds_toArray, List.set_cons_zero, List.set_cons_succ]
        refine wpAnyH_take (i := 1) rfl (by kernel_rfl) (by kernel_rfl) (by kernel_rfl) (fun _ _ _ h => h) (yieldsIf_load_row (by rfl) 73 _ rfl w2.heap.size rfl 73 ((tmC fast).toArray) (0, 0) _ (fun _ h => h.1) Try.underlying73 (tmC_info fast)) (by assumption) ?_
        try simp only [Act.put, List.getElem_toArray, List.getElem_cons_zero, List.getElem_cons_succ, List.setIfInBounds_toArray, List.set_cons_zero, List.set_cons_succ]
        refine wpAnyH_take (i := 3) (v := ?_) rfl (by kernel_rfl) (by kernel_rfl) (by kernel_rfl) (fun _ _ _ h => h) (Or.inl ⟨by rfl, ?_⟩) (by assumption) ?_
        rotate_left
        · intro w _; go_simp; try with_reducible rfl
        try simp only [Act.put, List.getElem_toArray, List.getElem_cons_zero, List.getElem_cons_succ, List.setIfInBounds_toArray, List.set_cons_zero, List.set_cons_succ]
        refine wpAnyH_take (i := 5) (v := ?_) rfl (by kernel_rfl) (by kernel_rfl) (by kernel_rfl) (fun _ _ _ h => h) (Or.inl ⟨by rfl, ?_⟩) (by assumption) ?_
        rotate_left
        · intro w _; go_simp; try with_reducible rfl
        try simp only [Act.put, List.getElem_toArray, List.getElem_cons_zero, List.getElem_cons_succ, List.setIfInBounds_toArray, List.set_cons_zero, List.set_cons_succ]
        refine wpAnyH_take (i := 6) (v := ?_) rfl (by kernel_rfl) (by kernel_rfl) (by kernel_rfl) (fun _ _ _ h => h) (Or.inl ⟨by rfl, ?_⟩) (by assumption) ?_
        rotate_left
        · intro w _; go_simp; try with_reducible rfl
        try simp only [Act.put, List.getElem_toArray, List.getElem_cons_zero, List.getElem_cons_succ, List.setIfInBounds_toArray, List.set_cons_zero, List.set_cons_succ]
        refine wpAnyH_take (i := 7) (v := ?_) rfl (by kernel_rfl) (by kernel_rfl) (by kernel_rfl) (fun _ _ _ h => h) (Or.inl ⟨by rfl, ?_⟩) (by assumption) ?_
        rotate_left
        · intro w _; go_simp; try with_reducible rfl
        try simp only [Act.put, List.getElem_toArray, List.getElem_cons_zero, List.getElem_cons_succ, List.setIfInBounds_toArray, List.set_cons_zero, List.set_cons_succ]
        refine wpAnyH_take (i := 8) (v := ?_) rfl (by kernel_rfl) (by kernel_rfl) (by kernel_rfl) (fun _ _ _ h => h) (Or.inl ⟨by rfl, ?_⟩) (by assumption) ?_
        rotate_left
        · intro w hSw; (try dsimp only at hSw); go_simp; try with_reducible rfl
        try simp only [Act.put, List.getElem_toArray, List.getElem_cons_zero, List.getElem_cons_succ, List.setIfInBounds_toArray, List.set_cons_zero, List.set_cons_succ]
        refine wpAnyH_take (i := 9) (v := ?_) rfl (by kernel_rfl) (by kernel_rfl) (by kernel_rfl) (fun _ _ _ h => h) (Or.inl ⟨by rfl, ?_⟩) (by assumption) ?_
        rotate_left
        · intro w _; go_simp; try with_reducible rfl
        try simp only [Act.put, List.getElem_toArray, List.getElem_cons_zero, List.getElem_cons_succ, List.setIfInBounds_toArray, List.set_cons_zero, List.set_cons_succ]
        refine wpAnyH_take (i := 10) (v := ?_) rfl (by kernel_rfl) (by kernel_rfl) (by kernel_rfl) (fun _ _ _ h => h) (Or.inl ⟨by rfl, ?_⟩) (by assumption) ?_
        rotate_left
        · intro w _; go_simp; try with_reducible rfl
        try simp only [Act.put, List.getElem_toArray, List.getElem_cons_zero, List.getElem_cons_succ, List.setIfInBounds_toArray, List.set_cons_zero, List.set_cons_succ]
        refine wpAnyH_ready (rs := [2, 11]) (by kernel_rfl) (by simp) ?_
        refine AllReadyH.cons rfl (fun K hK => ?_) (AllReadyH.cons rfl (fun K hK => ?_) AllReadyH.nil)
        · go_simp
          (refine hK.out _ _ (KEEP.out _ ((Below.alloc (Below.refl _ _) (Nat.le_refl _) _).drew)) (fun hSy => ?_))
          clear hK K
          have hSx := hSy; clear hSy
          try simp only [Act.put, List.getElem_toArray, List.getElem_cons_zero, List.getElem_cons_succ, List.setIfInBounds_toArray, List.set_cons_zero, List.set_cons_succ]
          refine wpAnyH_ready (rs := [4, 11]) (by kernel_rfl) (by simp) ?_
          refine AllReadyH.cons rfl (fun K hK => ?_) (AllReadyH.cons rfl (fun K hK => ?_) AllReadyH.nil)
          · refine step_append_lies _ (by rfl) _ _ _ (by rfl) w8.heap.size 100 i0_Ev _ 5 40 Try.underlying76 hi_Ev hz0_Ev hz1_Ev hz2_Ev rfl (by omega) _ 0 _ (by rfl) (((own_made_at rfl (Nat.le_refl _)).drew)) ⟨w7.heap.size, 0, none⟩ 2 2 [.int .i64 P1, .int .i64 8, .int .i64 0, .int .i64 0, .int .i64 0, .int .i64 lv, .int .i64 9, .int .i64 0, .int .i64 0, .int .i64 0] (by rfl) (by rfl) (World.news_of_block (cs := #[.int .i64 P1, .int .i64 8, .int .i64 0, .int .i64 0, .int .i64 0, .int .i64 lv, .int .i64 9, .int .i64 0, .int .i64 0, .int .i64 0]) (t := 100) (fr := (0, 0)) (show ((World.drew (World.alloc w8 (.cells #[] 100)))).heap[w7.heap.size]? = some (.cells #[.int .i64 P1, .int .i64 8, .int .i64 0, .int .i64 0, .int .i64 0, .int .i64 lv, .int .i64 9, .int .i64 0, .int .i64 0, .int .i64 0] 100 (0, 0)) from (alloc_lt _ _ _ (by omega)).trans KL.out)) (List.all_eq_true.1 rfl) (by omega) (by unfold maxLen; omega) (by omega) (by first | go_size | (simp; omega)) _ rfl ?_
            intro gb qb Vb hownb hgb hatb hltb
            simp only [Nat.zero_add, List.nil_append] at hownb ⊢
            have hBb : Below w8.heap.size w8 Vb := ((Below.alloc (Below.refl _ _) (Nat.le_refl _) _).drew).grown hgb (by simp) (fun k hk => by have := Option.some.inj (show some w8.heap.size = some k from hk); omega)
            have sb := hgb.size; simp only [World.size_alloc, World.size_drew] at sb
            (refine hK.out _ _ (KEEP.out _ (hBb)) (fun hSy => ?_))
            clear hK K
            have hSx := hSy; clear hSy
            try simp only [Act.put, List.getElem_toArray, List.getElem_cons_zero, List.getElem_cons_succ, List.setIfInBounds_toArray, List.set_cons_zero, List.set_cons_succ]
            refine wpAnyH_ready (rs := [11]) (by kernel_rfl) (by simp) ?_
            refine AllReadyH.cons rfl (fun K hK => ?_) AllReadyH.nil
            go_simp
            (refine hK.out _ _ (KEEP.out _ (hBb.alloc (by omega) _)) (fun hSy => ?_))
            clear hK K
            have hSx := hSy; clear hSy
            try simp only [Act.put, List.getElem_toArray, List.getElem_cons_zero, List.getElem_cons_succ, List.setIfInBounds_toArray, List.set_cons_zero, List.set_cons_succ]
            refine wpAnyH_ready (rs := [12]) (by kernel_rfl) (by simp) ?_
            refine AllReadyH.cons rfl (fun K hK => ?_) AllReadyH.nil
            refine step_append_lies _ (by rfl) _ _ _ (by rfl) w8.heap.size 100 i0_Ev _ 5 40 Try.underlying76 hi_Ev hz0_Ev hz1_Ev hz2_Ev rfl (by omega) _ 2 _ (by rfl) (hownb.alloc _) ⟨Vb.heap.size, 0, none⟩ 1 1 [.int .i64 (z - 1), .int .i64 5, .int .i64 cb, .int .i64 0, .int .i64 0] (by rfl) (by rfl) (World.news_of_block (cs := #[.int .i64 (z - 1), .int .i64 5, .int .i64 cb, .int .i64 0, .int .i64 0]) (t := 100) (fr := (0, 0)) (alloc_at _ _ _ rfl)) (List.all_eq_true.1 rfl) (by omega) (by unfold maxLen; omega) (by omega) (by first | go_size | (simp; omega)) _ rfl ?_
            intro gd qd Vd hownd hgd hatd hltd
            simp only [Nat.reduceAdd] at hownd ⊢
            have hBd : Below w8.heap.size w8 Vd := (hBb.alloc (by omega) _).grown hgd (by simp; omega) (fun k hk => by have := (hownb.lt k hk).1; omega)
            have sd := hBd.size
            (refine hK.out _ _ (KEEP.out _ (hBd)) (fun hSy => ?_))
            clear hK K
            have hSx := hSy; clear hSy
            try simp only [Act.put, List.getElem_toArray, List.getElem_cons_zero, List.getElem_cons_succ, List.setIfInBounds_toArray, List.set_cons_zero, List.set_cons_succ]
            refine wpAnyH_ready (rs := [13]) (by kernel_rfl) (by simp) ?_
            refine AllReadyH.cons rfl (fun K hK => ?_) AllReadyH.nil
            go_simp
            refine (spec_TraceFault_e g 8 P1 now (z - 1) cb (some ⟨gd, 0, none⟩) qd nb _ (isStructs_own (B := w8.heap.size) (E := 100) evF_len (by omega) (by rw [wk3, HLV.out]; exact hownd)) HG.out HNB.out (.inr rfl) HPN.out.1 HPN.out.2 (by rw [HZ.out]) HCB.out).mono ?_
            rintro ex Ve ⟨⟨ye, rfl⟩, hye⟩
            have hBe : Below w8.heap.size w8 Ve := bthen hBd hye sd
            (refine hK.out _ _ (KEEP.out _ (hBe)) (fun hSy => ?_))
            clear hK K
            have hSx := hSy; clear hSy
            try simp only [Act.put, List.getElem_toArray, List.getElem_cons_zero, List.getElem_cons_succ, List.setIfInBounds_toArray, List.set_cons_zero, List.set_cons_succ]
            refine wpAnyH_take (i := 14) (v := ?_) rfl (by kernel_rfl) (by kernel_rfl) (by kernel_rfl) (fun _ _ _ h => h) (Or.inl ⟨by rfl, ?_⟩) (by assumption) ?_
            rotate_left
            · intro w _; go_simp; try with_reducible rfl
            try simp only [Act.put, List.getElem_toArray, List.getElem_cons_zero, List.getElem_cons_succ, List.setIfInBounds_toArray, List.set_cons_zero, List.set_cons_succ]
            refine wpAnyH_take (i := 15) (v := ?_) rfl (by kernel_rfl) (by kernel_rfl) (by kernel_rfl) (fun _ _ _ h => h) (Or.inl ⟨by rfl, ?_⟩) (by assumption) ?_
            rotate_left
            · intro w _; go_simp; try with_reducible rfl
            try simp only [Act.put, List.getElem_toArray, List.getElem_cons_zero, List.getElem_cons_succ, List.setIfInBounds_toArray, List.set_cons_zero, List.set_cons_succ]
            refine wpAnyH_take (i := 16) (v := ?_) rfl (by kernel_rfl) (by kernel_rfl) (by kernel_rfl) (fun _ _ _ h => h) (Or.inl ⟨by rfl, ?_⟩) (by assumption) ?_
            rotate_left
            · intro w _; go_simp; try with_reducible rfl
            try simp only [Act.put, List.getElem_toArray, List.getElem_cons_zero, List.getElem_cons_succ, List.setIfInBounds_toArray, List.set_cons_zero, List.set_cons_succ]
            refine wpAnyH_take (i := 17) (v := ?_) rfl (by kernel_rfl) (by kernel_rfl) (by kernel_rfl) (fun _ _ _ h => h) (Or.inl ⟨by rfl, ?_⟩) (by assumption) ?_
            rotate_left
            · intro w _; go_simp; try with_reducible rfl
            try simp only [Act.put, List.getElem_toArray, List.getElem_cons_zero, List.getElem_cons_succ, List.setIfInBounds_toArray, List.set_cons_zero, List.set_cons_succ]
            refine wpAnyH_take (i := 18) (v := ?_) rfl (by kernel_rfl) (by kernel_rfl) (by kernel_rfl) (fun _ _ _ h => h) (Or.inl ⟨by rfl, ?_⟩) (by assumption) ?_
            rotate_left
            · intro w _; go_simp; try with_reducible rfl
            try simp only [Act.put, List.getElem_toArray, List.getElem_cons_zero, List.getElem_cons_succ, List.setIfInBounds_toArray, List.set_cons_zero, List.set_cons_succ]
            refine wpAnyH_done (by kernel_rfl) ?_ _
            go_wp2_with fail
            go_meet
            exact ⟨⟨_, rfl, rfl⟩, hBe⟩
          · go_simp
            (refine hK.out _ _ (KEEP.out _ (((Below.alloc (Below.refl _ _) (Nat.le_refl _) _).alloc (by simp) _).drew)) (fun hSy => ?_))
            clear hK K
            have hSx := hSy; clear hSy
            try simp only [Act.put, List.getElem_toArray, List.getElem_cons_zero, List.getElem_cons_succ, List.setIfInBounds_toArray, List.set_cons_zero, List.set_cons_succ]
            refine wpAnyH_ready (rs := [4]) (by kernel_rfl) (by simp) ?_
            refine AllReadyH.cons rfl (fun K hK => ?_) AllReadyH.nil
            refine step_append_lies _ (by rfl) _ _ _ (by rfl) w8.heap.size 100 i0_Ev _ 5 40 Try.underlying76 hi_Ev hz0_Ev hz1_Ev hz2_Ev rfl (by omega) _ 0 _ (by rfl) ((((own_made_at rfl (Nat.le_refl _)).alloc _).drew)) ⟨w7.heap.size, 0, none⟩ 2 2 [.int .i64 P1, .int .i64 8, .int .i64 0, .int .i64 0, .int .i64 0, .int .i64 lv, .int .i64 9, .int .i64 0, .int .i64 0, .int .i64 0] (by rfl) (by rfl) (World.news_of_block (cs := #[.int .i64 P1, .int .i64 8, .int .i64 0, .int .i64 0, .int .i64 0, .int .i64 lv, .int .i64 9, .int .i64 0, .int .i64 0, .int .i64 0]) (t := 100) (fr := (0, 0)) (show ((World.drew (World.alloc (World.alloc w8 (.cells #[] 100)) (.cells #[.int .i64 (z - 1), .int .i64 5, .int .i64 cb, .int .i64 0, .int .i64 0] 100)))).heap[w7.heap.size]? = some (.cells #[.int .i64 P1, .int .i64 8, .int .i64 0, .int .i64 0, .int .i64 0, .int .i64 lv, .int .i64 9, .int .i64 0, .int .i64 0, .int .i64 0] 100 (0, 0)) from (alloc_lt _ _ _ (by simp; omega)).trans ((alloc_lt _ _ _ (by omega)).trans KL.out))) (List.all_eq_true.1 rfl) (by omega) (by unfold maxLen; omega) (by omega) (by first | go_size | (simp; omega)) _ rfl ?_
            intro gb qb Vb hownb hgb hatb hltb
            simp only [Nat.zero_add, List.nil_append] at hownb ⊢
            have hBb : Below w8.heap.size w8 Vb := (((Below.alloc (Below.refl _ _) (Nat.le_refl _) _).alloc (by simp) _).drew).grown hgb (by simp; omega) (fun k hk => by have := Option.some.inj (show some (w8.heap.size) = some k from hk); (try simp only [World.size_alloc] at this); omega)
            have sb := hgb.size; simp only [World.size_alloc, World.size_drew] at sb
            have kc : Vb.heap[w8.heap.size + 1]? = some (.cells #[.int .i64 (z - 1), .int .i64 5, .int .i64 cb, .int .i64 0, .int .i64 0] 100 (0, 0)) := (hgb.block _ (by simp only [World.size_drew, World.size_alloc]; omega) (fun h => by have := Option.some.inj (show some (w8.heap.size + 1) = some (w8.heap.size) from h); (try simp only [World.size_alloc] at this); omega)).trans (alloc_at _ _ _ (by simp))
            (refine hK.out _ _ (KEEP.out _ (hBb)) (fun hSy => ?_))
            clear hK K
            have hSx := hSy; clear hSy
            try simp only [Act.put, List.getElem_toArray, List.getElem_cons_zero, List.getElem_cons_succ, List.setIfInBounds_toArray, List.set_cons_zero, List.set_cons_succ]
            refine wpAnyH_ready (rs := [12]) (by kernel_rfl) (by simp) ?_
            refine AllReadyH.cons rfl (fun K hK => ?_) AllReadyH.nil
            refine step_append_lies _ (by rfl) _ _ _ (by rfl) w8.heap.size 100 i0_Ev _ 5 40 Try.underlying76 hi_Ev hz0_Ev hz1_Ev hz2_Ev rfl (by omega) _ 2 _ (by rfl) (hownb) ⟨w8.heap.size + 1, 0, none⟩ 1 1 [.int .i64 (z - 1), .int .i64 5, .int .i64 cb, .int .i64 0, .int .i64 0] (by rfl) (by rfl) (World.news_of_block (cs := #[.int .i64 (z - 1), .int .i64 5, .int .i64 cb, .int .i64 0, .int .i64 0]) (t := 100) (fr := (0, 0)) kc) (List.all_eq_true.1 rfl) (by omega) (by unfold maxLen; omega) (by omega) (by first | go_size | (simp; omega)) _ rfl ?_
            intro gd qd Vd hownd hgd hatd hltd
            simp only [Nat.reduceAdd] at hownd ⊢
            have hBd : Below w8.heap.size w8 Vd := hBb.grown hgd (by omega) (fun k hk => by have := (hownb.lt k hk).1; omega)
            have sd := hBd.size
            (refine hK.out _ _ (KEEP.out _ (hBd)) (fun hSy => ?_))
            clear hK K
            have hSx := hSy; clear hSy
            try simp only [Act.put, List.getElem_toArray, List.getElem_cons_zero, List.getElem_cons_succ, List.setIfInBounds_toArray, List.set_cons_zero, List.set_cons_succ]
            refine wpAnyH_ready (rs := [13]) (by kernel_rfl) (by simp) ?_
            refine AllReadyH.cons rfl (fun K hK => ?_) AllReadyH.nil
            go_simp
            refine (spec_TraceFault_e g 8 P1 now (z - 1) cb (some ⟨gd, 0, none⟩) qd nb _ (isStructs_own (B := w8.heap.size) (E := 100) evF_len (by omega) (by rw [wk3, HLV.out]; exact hownd)) HG.out HNB.out (.inr rfl) HPN.out.1 HPN.out.2 (by rw [HZ.out]) HCB.out).mono ?_
            rintro ex Ve ⟨⟨ye, rfl⟩, hye⟩
            have hBe : Below w8.heap.size w8 Ve := bthen hBd hye sd
            (refine hK.out _ _ (KEEP.out _ (hBe)) (fun hSy => ?_))
            clear hK K
            have hSx := hSy; clear hSy
            try simp only [Act.put, List.getElem_toArray, List.getElem_cons_zero, List.getElem_cons_succ, List.setIfInBounds_toArray, List.set_cons_zero, List.set_cons_succ]
            refine wpAnyH_take (i := 14) (v := ?_) rfl (by kernel_rfl) (by kernel_rfl) (by kernel_rfl) (fun _ _ _ h => h) (Or.inl ⟨by rfl, ?_⟩) (by assumption) ?_
            rotate_left
            · intro w _; go_simp; try with_reducible rfl
            try simp only [Act.put, List.getElem_toArray, List.getElem_cons_zero, List.getElem_cons_succ, List.setIfInBounds_toArray, List.set_cons_zero, List.set_cons_succ]
            refine wpAnyH_take (i := 15) (v := ?_) rfl (by kernel_rfl) (by kernel_rfl) (by kernel_rfl) (fun _ _ _ h => h) (Or.inl ⟨by rfl, ?_⟩) (by assumption) ?_
            rotate_left
            · intro w _; go_simp; try with_reducible rfl
            try simp only [Act.put, List.getElem_toArray, List.getElem_cons_zero, List.getElem_cons_succ, List.setIfInBounds_toArray, List.set_cons_zero, List.set_cons_succ]
            refine wpAnyH_take (i := 16) (v := ?_) rfl (by kernel_rfl) (by kernel_rfl) (by kernel_rfl) (fun _ _ _ h => h) (Or.inl ⟨by rfl, ?_⟩) (by assumption) ?_
            rotate_left
            · intro w _; go_simp; try with_reducible rfl
            try simp only [Act.put, List.getElem_toArray, List.getElem_cons_zero, List.getElem_cons_succ, List.setIfInBounds_toArray, List.set_cons_zero, List.set_cons_succ]
            refine wpAnyH_take (i := 17) (v := ?_) rfl (by kernel_rfl) (by kernel_rfl) (by kernel_rfl) (fun _ _ _ h => h) (Or.inl ⟨by rfl, ?_⟩) (by assumption) ?_
            rotate_left
            · intro w _; go_simp; try with_reducible rfl
            try simp only [Act.put, List.getElem_toArray, List.getElem_cons_zero, List.getElem_cons_succ, List.setIfInBounds_toArray, List.set_cons_zero, List.set_cons_succ]
            refine wpAnyH_take (i := 18) (v := ?_) rfl (by kernel_rfl) (by kernel_rfl) (by kernel_rfl) (fun _ _ _ h => h) (Or.inl ⟨by rfl, ?_⟩) (by assumption) ?_
            rotate_left
            · intro w _; go_simp; try with_reducible rfl
            try simp only [Act.put, List.getElem_toArray, List.getElem_cons_zero, List.getElem_cons_succ, List.setIfInBounds_toArray, List.set_cons_zero, List.set_cons_succ]
            refine wpAnyH_done (by kernel_rfl) ?_ _
            go_wp2_with fail
            go_meet
            exact ⟨⟨_, rfl, rfl⟩, hBe⟩
        · go_simp
          (refine hK.out _ _ (KEEP.out _ ((Below.alloc (Below.refl _ _) (Nat.le_refl _) _).drew)) (fun hSy => ?_))
          clear hK K
          have hSx := hSy; clear hSy
          try simp only [Act.put, List.getElem_toArray, List.getElem_cons_zero, List.getElem_cons_succ, List.setIfInBounds_toArray, List.set_cons_zero, List.set_cons_succ]
          refine wpAnyH_ready (rs := [2]) (by kernel_rfl) (by simp) ?_
          refine AllReadyH.cons rfl (fun K hK => ?_) AllReadyH.nil
          go_simp
          (refine hK.out _ _ (KEEP.out _ (((Below.alloc (Below.refl _ _) (Nat.le_refl _) _).alloc (by simp) _).drew)) (fun hSy => ?_))
          clear hK K
          have hSx := hSy; clear hSy
          try simp only [Act.put, List.getElem_toArray, List.getElem_cons_zero, List.getElem_cons_succ, List.setIfInBounds_toArray, List.set_cons_zero, List.set_cons_succ]
          refine wpAnyH_ready (rs := [4]) (by kernel_rfl) (by simp) ?_
          refine AllReadyH.cons rfl (fun K hK => ?_) AllReadyH.nil
          refine step_append_lies _ (by rfl) _ _ _ (by rfl) w8.heap.size 100 i0_Ev _ 5 40 Try.underlying76 hi_Ev hz0_Ev hz1_Ev hz2_Ev rfl (by omega) _ 0 _ (by rfl) (((own_made_at (by simp) (by simp)).drew)) ⟨w7.heap.size, 0, none⟩ 2 2 [.int .i64 P1, .int .i64 8, .int .i64 0, .int .i64 0, .int .i64 0, .int .i64 lv, .int .i64 9, .int .i64 0, .int .i64 0, .int .i64 0] (by rfl) (by rfl) (World.news_of_block (cs := #[.int .i64 P1, .int .i64 8, .int .i64 0, .int .i64 0, .int .i64 0, .int .i64 lv, .int .i64 9, .int .i64 0, .int .i64 0, .int .i64 0]) (t := 100) (fr := (0, 0)) (show ((World.drew (World.alloc (World.alloc w8 (.cells #[.int .i64 (z - 1), .int .i64 5, .int .i64 cb, .int .i64 0, .int .i64 0] 100)) (.cells #[] 100)))).heap[w7.heap.size]? = some (.cells #[.int .i64 P1, .int .i64 8, .int .i64 0, .int .i64 0, .int .i64 0, .int .i64 lv, .int .i64 9, .int .i64 0, .int .i64 0, .int .i64 0] 100 (0, 0)) from (alloc_lt _ _ _ (by simp; omega)).trans ((alloc_lt _ _ _ (by omega)).trans KL.out))) (List.all_eq_true.1 rfl) (by omega) (by unfold maxLen; omega) (by omega) (by first | go_size | (simp; omega)) _ rfl ?_
          intro gb qb Vb hownb hgb hatb hltb
          simp only [Nat.zero_add, List.nil_append] at hownb ⊢
          have hBb : Below w8.heap.size w8 Vb := (((Below.alloc (Below.refl _ _) (Nat.le_refl _) _).alloc (by simp) _).drew).grown hgb (by simp; omega) (fun k hk => by have := Option.some.inj (show some (w8.heap.size + 1) = some k from hk); (try simp only [World.size_alloc] at this); omega)
          have sb := hgb.size; simp only [World.size_alloc, World.size_drew] at sb
          have kc : Vb.heap[w8.heap.size]? = some (.cells #[.int .i64 (z - 1), .int .i64 5, .int .i64 cb, .int .i64 0, .int .i64 0] 100 (0, 0)) := (hgb.block _ (by simp only [World.size_drew, World.size_alloc]; omega) (fun h => by have := Option.some.inj (show some (w8.heap.size) = some (w8.heap.size + 1) from h); (try simp only [World.size_alloc] at this); omega)).trans ((alloc_lt _ _ _ (by simp)).trans (alloc_at _ _ _ rfl))
          (refine hK.out _ _ (KEEP.out _ (hBb)) (fun hSy => ?_))
          clear hK K
          have hSx := hSy; clear hSy
          try simp only [Act.put, List.getElem_toArray, List.getElem_cons_zero, List.getElem_cons_succ, List.setIfInBounds_toArray, List.set_cons_zero, List.set_cons_succ]
          refine wpAnyH_ready (rs := [12]) (by kernel_rfl) (by simp) ?_
          refine AllReadyH.cons rfl (fun K hK => ?_) AllReadyH.nil
          refine step_append_lies _ (by rfl) _ _ _ (by rfl) w8.heap.size 100 i0_Ev _ 5 40 Try.underlying76 hi_Ev hz0_Ev hz1_Ev hz2_Ev rfl (by omega) _ 2 _ (by rfl) (hownb) ⟨w8.heap.size, 0, none⟩ 1 1 [.int .i64 (z - 1), .int .i64 5, .int .i64 cb, .int .i64 0, .int .i64 0] (by rfl) (by rfl) (World.news_of_block (cs := #[.int .i64 (z - 1), .int .i64 5, .int .i64 cb, .int .i64 0, .int .i64 0]) (t := 100) (fr := (0, 0)) kc) (List.all_eq_true.1 rfl) (by omega) (by unfold maxLen; omega) (by omega) (by first | go_size | (simp; omega)) _ rfl ?_
          intro gd qd Vd hownd hgd hatd hltd
          simp only [Nat.reduceAdd] at hownd ⊢
          have hBd : Below w8.heap.size w8 Vd := hBb.grown hgd (by omega) (fun k hk => by have := (hownb.lt k hk).1; omega)
          have sd := hBd.size
          (refine hK.out _ _ (KEEP.out _ (hBd)) (fun hSy => ?_))
          clear hK K
          have hSx := hSy; clear hSy
          try simp only [Act.put, List.getElem_toArray, List.getElem_cons_zero, List.getElem_cons_succ, List.setIfInBounds_toArray, List.set_cons_zero, List.set_cons_succ]
          refine wpAnyH_ready (rs := [13]) (by kernel_rfl) (by simp) ?_
          refine AllReadyH.cons rfl (fun K hK => ?_) AllReadyH.nil
          go_simp
          refine (spec_TraceFault_e g 8 P1 now (z - 1) cb (some ⟨gd, 0, none⟩) qd nb _ (isStructs_own (B := w8.heap.size) (E := 100) evF_len (by omega) (by rw [wk3, HLV.out]; exact hownd)) HG.out HNB.out (.inr rfl) HPN.out.1 HPN.out.2 (by rw [HZ.out]) HCB.out).mono ?_
          rintro ex Ve ⟨⟨ye, rfl⟩, hye⟩
          have hBe : Below w8.heap.size w8 Ve := bthen hBd hye sd
          (refine hK.out _ _ (KEEP.out _ (hBe)) (fun hSy => ?_))
          clear hK K
          have hSx := hSy; clear hSy
          try simp only [Act.put, List.getElem_toArray, List.getElem_cons_zero, List.getElem_cons_succ, List.setIfInBounds_toArray, List.set_cons_zero, List.set_cons_succ]
          refine wpAnyH_take (i := 14) (v := ?_) rfl (by kernel_rfl) (by kernel_rfl) (by kernel_rfl) (fun _ _ _ h => h) (Or.inl ⟨by rfl, ?_⟩) (by assumption) ?_
          rotate_left
          · intro w _; go_simp; try with_reducible rfl
          try simp only [Act.put, List.getElem_toArray, List.getElem_cons_zero, List.getElem_cons_succ, List.setIfInBounds_toArray, List.set_cons_zero, List.set_cons_succ]
          refine wpAnyH_take (i := 15) (v := ?_) rfl (by kernel_rfl) (by kernel_rfl) (by kernel_rfl) (fun _ _ _ h => h) (Or.inl ⟨by rfl, ?_⟩) (by assumption) ?_
          rotate_left
          · intro w _; go_simp; try with_reducible rfl
          try simp only [Act.put, List.getElem_toArray, List.getElem_cons_zero, List.getElem_cons_succ, List.setIfInBounds_toArray, List.set_cons_zero, List.set_cons_succ]
          refine wpAnyH_take (i := 16) (v := ?_) rfl (by kernel_rfl) (by kernel_rfl) (by kernel_rfl) (fun _ _ _ h => h) (Or.inl ⟨by rfl, ?_⟩) (by assumption) ?_
          rotate_left
          · intro w _; go_simp; try with_reducible rfl
          try simp only [Act.put, List.getElem_toArray, List.getElem_cons_zero, List.getElem_cons_succ, List.setIfInBounds_toArray, List.set_cons_zero, List.set_cons_succ]
          refine wpAnyH_take (i := 17) (v := ?_) rfl (by kernel_rfl) (by kernel_rfl) (by kernel_rfl) (fun _ _ _ h => h) (Or.inl ⟨by rfl, ?_⟩) (by assumption) ?_
          rotate_left
          · intro w _; go_simp; try with_reducible rfl
          try simp only [Act.put, List.getElem_toArray, List.getElem_cons_zero, List.getElem_cons_succ, List.setIfInBounds_toArray, List.set_cons_zero, List.set_cons_succ]
          refine wpAnyH_take (i := 18) (v := ?_) rfl (by kernel_rfl) (by kernel_rfl) (by kernel_rfl) (fun _ _ _ h => h) (Or.inl ⟨by rfl, ?_⟩) (by assumption) ?_
          rotate_left
          · intro w _; go_simp; try with_reducible rfl
          try simp only [Act.put, List.getElem_toArray, List.getElem_cons_zero, List.getElem_cons_succ, List.setIfInBounds_toArray, List.set_cons_zero, List.set_cons_succ]
          refine wpAnyH_done (by kernel_rfl) ?_ _
          go_wp2_with fail
          go_meet
          exact ⟨⟨_, rfl, rfl⟩, hBe⟩
      case rest =>
        obtain ⟨⟨y9, rfl, rfl⟩, hB9⟩ := hcut
        obtain ⟨w9, rfl⟩ : ∃ V : World, V = wc := ⟨_, rfl⟩
        have s9 := hB9.size
        have KT9 := hide ((hB9.block _ lt8).trans KT8.out)
        have KG9 := hide ((hB9.block _ lg8).trans KG8.out)
        have KC9 := hide ((hB9.block _ lc8).trans KC8.out)
        replace KL := hide ((hB9.block _ (by omega)).trans KL.out)
        have HB9 := hide (bthen HB8.out hB9 HB8.out.size)
        clear lt8 lg8 lc8 KT8 KG8 KC8 HB8 hB9 KEEP i0_Ev hi_Ev hz0_Ev hz1_Ev hz2_Ev
        have lt9 := lt_blk KT9.out
        have lg9 := lt_blk KG9.out
        have lc9 := lt_blk KC9.out
        obtain ⟨i0_Ev, hi_Ev, hz0_Ev, hz1_Ev, hz2_Ev⟩ := info_parts info_Ev
        have KEEP := hide (show ∀ v, Below w9.heap.size w9 v → v.heap[w2.heap.size]? = some (.cells (tmC fast).toArray 73 (0, 0)) ∧ v.cell? ⟨w1.heap.size, 0, none⟩ = some (.int .i64 g.gr) ∧ v.cell? ⟨w1.heap.size, 1, none⟩ = some (.int .i64 g.bk) ∧ v.cell? ⟨w1.heap.size, 2, none⟩ = some (.int .i64 g.rw) ∧ v.cell? ⟨w1.heap.size, 3, none⟩ = some (.int .i64 g.cl) ∧ v.cell? ⟨w1.heap.size + 1, 1, none⟩ = some (.int .i64 cb) ∧ Below w9.heap.size w9 v from fun v hb =>
          have h1 := (hb.block _ lt9).trans KT9.out
          have h2 := (hb.block _ lg9).trans KG9.out
          have h3 := (hb.block _ lc9).trans KC9.out
          ⟨h1, cell_blk h2 0, cell_blk h2 1, cell_blk h2 2, cell_blk h2 3, cell_blk h3 1, hb⟩)
        go_upto_region 16 with fail
        go_cut [18, 19] (fun s0 s1 wx => (∃ y : Int, s0 = .int .i64 0 ∧ s1 = .int .i64 y) ∧ Below w9.heap.size w9 wx)
        case first =>
          refine wp_region_held_drew (S := fun v => v.heap[w2.heap.size]? = some (.cells (tmC fast).toArray 73 (0, 0)) ∧ v.cell? ⟨w1.heap.size, 0, none⟩ = some (.int .i64 g.gr) ∧ v.cell? ⟨w1.heap.size, 1, none⟩ = some (.int .i64 g.bk) ∧ v.cell? ⟨w1.heap.size, 2, none⟩ = some (.int .i64 g.rw) ∧ v.cell? ⟨w1.heap.size, 3, none⟩ = some (.int .i64 g.cl) ∧ v.cell? ⟨w1.heap.size + 1, 1, none⟩ = some (.int .i64 cb) ∧ Below w9.heap.size w9 v) (by kernel_rfl) (KEEP.out _ (Below.refl _ _).drew) (fun hSx => ?_)
          refine wpAnyH_take (i := 0) (v := ?_) rfl (by kernel_rfl) (by kernel_rfl) (by kernel_rfl) (fun _ _ _ h => h) (Or.inl ⟨by rfl, ?_⟩) (by assumption) ?_
          rotate_left
          · intro w hSw; (try dsimp only at hSw); go_simp; try with_reducible rfl
          try simp only [Act.put, List.getElem_toArray, List.getElem_cons_zero, List.getElem_cons_succ, List.setIfInBounds_toArray, List.set_cons_zero, List.set_cons_succ]
          refine wpAnyH_take (i := 1) rfl (by kernel_rfl) (by kernel_rfl) (by kernel_rfl) (fun _ _ _ h => h) (yieldsIf_load_row (by rfl) 73 _ rfl w2.heap.size rfl 73 ((tmC fast).toArray) (0, 0) _ (fun _ h => h.1) Try.underlying73 (tmC_info fast)) (by assumption) ?_
          try simp only [Act.put, List.getElem_toArray, List.getElem_cons_zero, List.getElem_cons_succ, List.setIfInBounds_toArray, List.set_cons_zero, List.set_cons_succ]
          refine wpAnyH_take (i := 3) (v := ?_) rfl (by kernel_rfl) (by kernel_rfl) (by kernel_rfl) (fun _ _ _ h => h) (Or.inl ⟨by rfl, ?_⟩) (by assumption) ?_
          rotate_left
          · intro w _; go_simp; try with_reducible rfl
          try simp only [Act.put, List.getElem_toArray, List.getElem_cons_zero, List.getElem_cons_succ, List.setIfInBounds_toArray, List.set_cons_zero, List.set_cons_succ]
          refine wpAnyH_take (i := 5) (v := ?_) rfl (by kernel_rfl) (by kernel_rfl) (by kernel_rfl) (fun _ _ _ h => h) (Or.inl ⟨by rfl, ?_⟩) (by assumption) ?_
          rotate_left
          · intro w _; go_simp; try with_reducible rfl
          try simp only [Act.put, List.getElem_toArray, List.getElem_cons_zero, List.getElem_cons_succ, List.setIfInBounds_toArray, List.set_cons_zero, List.set_cons_succ]
          refine wpAnyH_take (i := 6) (v := ?_) rfl (by kernel_rfl) (by kernel_rfl) (by kernel_rfl) (fun _ _ _ h => h) (Or.inl ⟨by rfl, ?_⟩) (by assumption) ?_
          rotate_left
          · intro w _; go_simp; try with_reducible rfl
          try simp only [Act.put, List.getElem_toArray, List.getElem_cons_zero, List.getElem_cons_succ, List.setIfInBounds_toArray, List.set_cons_zero, List.set_cons_succ]
          refine wpAnyH_take (i := 7) (v := ?_) rfl (by kernel_rfl) (by kernel_rfl) (by kernel_rfl) (fun _ _ _ h => h) (Or.inl ⟨by rfl, ?_⟩) (by assumption) ?_
          rotate_left
          · intro w hSw; (try dsimp only at hSw); go_simp; try with_reducible rfl
          try simp only [Act.put, List.getElem_toArray, List.getElem_cons_zero, List.getElem_cons_succ, List.setIfInBounds_toArray, List.set_cons_zero, List.set_cons_succ]
          refine wpAnyH_take (i := 8) (v := ?_) rfl (by kernel_rfl) (by kernel_rfl) (by kernel_rfl) (fun _ _ _ h => h) (Or.inl ⟨by rfl, ?_⟩) (by assumption) ?_
          rotate_left
          · intro w _; go_simp; try with_reducible rfl
          try simp only [Act.put, List.getElem_toArray, List.getElem_cons_zero, List.getElem_cons_succ, List.setIfInBounds_toArray, List.set_cons_zero, List.set_cons_succ]
          refine wpAnyH_take (i := 9) (v := ?_) rfl (by kernel_rfl) (by kernel_rfl) (by kernel_rfl) (fun _ _ _ h => h) (Or.inl ⟨by rfl, ?_⟩) (by assumption) ?_
          rotate_left
          · intro w _; go_simp; try with_reducible rfl
          try simp only [Act.put, List.getElem_toArray, List.getElem_cons_zero, List.getElem_cons_succ, List.setIfInBounds_toArray, List.set_cons_zero, List.set_cons_succ]
          refine wpAnyH_ready (rs := [2, 10]) (by kernel_rfl) (by simp) ?_
          refine AllReadyH.cons rfl (fun K hK => ?_) (AllReadyH.cons rfl (fun K hK => ?_) AllReadyH.nil)
          · go_simp
            (refine hK.out _ _ (KEEP.out _ ((Below.alloc (Below.refl _ _) (Nat.le_refl _) _).drew)) (fun hSy => ?_))
            clear hK K
            have hSx := hSy; clear hSy
            try simp only [Act.put, List.getElem_toArray, List.getElem_cons_zero, List.getElem_cons_succ, List.setIfInBounds_toArray, List.set_cons_zero, List.set_cons_succ]
            refine wpAnyH_ready (rs := [4, 10]) (by kernel_rfl) (by simp) ?_
            refine AllReadyH.cons rfl (fun K hK => ?_) (AllReadyH.cons rfl (fun K hK => ?_) AllReadyH.nil)
            · refine step_append_lies _ (by rfl) _ _ _ (by rfl) w9.heap.size 100 i0_Ev _ 5 40 Try.underlying76 hi_Ev hz0_Ev hz1_Ev hz2_Ev rfl (by omega) _ 0 _ (by rfl) (((own_made_at rfl (Nat.le_refl _)).drew)) ⟨w7.heap.size, 0, none⟩ 2 2 [.int .i64 P1, .int .i64 8, .int .i64 0, .int .i64 0, .int .i64 0, .int .i64 lv, .int .i64 9, .int .i64 0, .int .i64 0, .int .i64 0] (by rfl) (by rfl) (World.news_of_block (cs := #[.int .i64 P1, .int .i64 8, .int .i64 0, .int .i64 0, .int .i64 0, .int .i64 lv, .int .i64 9, .int .i64 0, .int .i64 0, .int .i64 0]) (t := 100) (fr := (0, 0)) (show ((World.drew (World.alloc w9 (.cells #[] 100)))).heap[w7.heap.size]? = some (.cells #[.int .i64 P1, .int .i64 8, .int .i64 0, .int .i64 0, .int .i64 0, .int .i64 lv, .int .i64 9, .int .i64 0, .int .i64 0, .int .i64 0] 100 (0, 0)) from (alloc_lt _ _ _ (by omega)).trans KL.out)) (List.all_eq_true.1 rfl) (by omega) (by unfold maxLen; omega) (by omega) (by first | go_size | (simp; omega)) _ rfl ?_
              intro gb qb Vb hownb hgb hatb hltb
              simp only [Nat.zero_add, List.nil_append] at hownb ⊢
              have hBb : Below w9.heap.size w9 Vb := ((Below.alloc (Below.refl _ _) (Nat.le_refl _) _).drew).grown hgb (by simp) (fun k hk => by have := Option.some.inj (show some w9.heap.size = some k from hk); omega)
              have sb := hgb.size; simp only [World.size_alloc, World.size_drew] at sb
              (refine hK.out _ _ (KEEP.out _ (hBb)) (fun hSy => ?_))
              clear hK K
              have hSx := hSy; clear hSy
              try simp only [Act.put, List.getElem_toArray, List.getElem_cons_zero, List.getElem_cons_succ, List.setIfInBounds_toArray, List.set_cons_zero, List.set_cons_succ]
              refine wpAnyH_ready (rs := [10]) (by kernel_rfl) (by simp) ?_
              refine AllReadyH.cons rfl (fun K hK => ?_) AllReadyH.nil
              go_simp
              (refine hK.out _ _ (KEEP.out _ (hBb.alloc (by omega) _)) (fun hSy => ?_))
              clear hK K
              have hSx := hSy; clear hSy
              try simp only [Act.put, List.getElem_toArray, List.getElem_cons_zero, List.getElem_cons_succ, List.setIfInBounds_toArray, List.set_cons_zero, List.set_cons_succ]
              refine wpAnyH_ready (rs := [11]) (by kernel_rfl) (by simp) ?_
              refine AllReadyH.cons rfl (fun K hK => ?_) AllReadyH.nil
              refine step_append_lies _ (by rfl) _ _ _ (by rfl) w9.heap.size 100 i0_Ev _ 5 40 Try.underlying76 hi_Ev hz0_Ev hz1_Ev hz2_Ev rfl (by omega) _ 2 _ (by rfl) (hownb.alloc _) ⟨Vb.heap.size, 0, none⟩ 1 1 [.int .i64 z, .int .i64 5, .int .i64 cb, .int .i64 0, .int .i64 0] (by rfl) (by rfl) (World.news_of_block (cs := #[.int .i64 z, .int .i64 5, .int .i64 cb, .int .i64 0, .int .i64 0]) (t := 100) (fr := (0, 0)) (alloc_at _ _ _ rfl)) (List.all_eq_true.1 rfl) (by omega) (by unfold maxLen; omega) (by omega) (by first | go_size | (simp; omega)) _ rfl ?_
              intro gd qd Vd hownd hgd hatd hltd
              simp only [Nat.reduceAdd] at hownd ⊢
              have hBd : Below w9.heap.size w9 Vd := (hBb.alloc (by omega) _).grown hgd (by simp; omega) (fun k hk => by have := (hownb.lt k hk).1; omega)
              have sd := hBd.size
              (refine hK.out _ _ (KEEP.out _ (hBd)) (fun hSy => ?_))
              clear hK K
              have hSx := hSy; clear hSy
              try simp only [Act.put, List.getElem_toArray, List.getElem_cons_zero, List.getElem_cons_succ, List.setIfInBounds_toArray, List.set_cons_zero, List.set_cons_succ]
              refine wpAnyH_ready (rs := [12]) (by kernel_rfl) (by simp) ?_
              refine AllReadyH.cons rfl (fun K hK => ?_) AllReadyH.nil
              go_simp
              refine (spec_TraceFault_3 g 8 P1 now z cb (some ⟨gd, 0, none⟩) qd nb _ (isStructs_own (B := w9.heap.size) (E := 100) evF_len (by omega) (by rw [wk3, HLV.out]; exact hownd)) HG.out HNB.out (.inr rfl) HPN.out.1 HPN.out.2 (by rw [HZ.out]) HCB.out).mono ?_
              rintro ex Ve ⟨⟨ye, rfl⟩, hye⟩
              have hBe : Below w9.heap.size w9 Ve := bthen hBd hye sd
              (refine hK.out _ _ (KEEP.out _ (hBe)) (fun hSy => ?_))
              clear hK K
              have hSx := hSy; clear hSy
              try simp only [Act.put, List.getElem_toArray, List.getElem_cons_zero, List.getElem_cons_succ, List.setIfInBounds_toArray, List.set_cons_zero, List.set_cons_succ]
              refine wpAnyH_take (i := 13) (v := ?_) rfl (by kernel_rfl) (by kernel_rfl) (by kernel_rfl) (fun _ _ _ h => h) (Or.inl ⟨by rfl, ?_⟩) (by assumption) ?_
              rotate_left
              · intro w _; go_simp; try with_reducible rfl
              try simp only [Act.put, List.getElem_toArray, List.getElem_cons_zero, List.getElem_cons_succ, List.setIfInBounds_toArray, List.set_cons_zero, List.set_cons_succ]
              refine wpAnyH_take (i := 14) (v := ?_) rfl (by kernel_rfl) (by kernel_rfl) (by kernel_rfl) (fun _ _ _ h => h) (Or.inl ⟨by rfl, ?_⟩) (by assumption) ?_
              rotate_left
              · intro w _; go_simp; try with_reducible rfl
              try simp only [Act.put, List.getElem_toArray, List.getElem_cons_zero, List.getElem_cons_succ, List.setIfInBounds_toArray, List.set_cons_zero, List.set_cons_succ]
              refine wpAnyH_take (i := 15) (v := ?_) rfl (by kernel_rfl) (by kernel_rfl) (by kernel_rfl) (fun _ _ _ h => h) (Or.inl ⟨by rfl, ?_⟩) (by assumption) ?_
              rotate_left
              · intro w _; go_simp; try with_reducible rfl
              try simp only [Act.put, List.getElem_toArray, List.getElem_cons_zero, List.getElem_cons_succ, List.setIfInBounds_toArray, List.set_cons_zero, List.set_cons_succ]
              refine wpAnyH_take (i := 16) (v := ?_) rfl (by kernel_rfl) (by kernel_rfl) (by kernel_rfl) (fun _ _ _ h => h) (Or.inl ⟨by rfl, ?_⟩) (by assumption) ?_
              rotate_left
              · intro w _; go_simp; try with_reducible rfl
              try simp only [Act.put, List.getElem_toArray, List.getElem_cons_zero, List.getElem_cons_succ, List.setIfInBounds_toArray, List.set_cons_zero, List.set_cons_succ]
              refine wpAnyH_take (i := 17) (v := ?_) rfl (by kernel_rfl) (by kernel_rfl) (by kernel_rfl) (fun _ _ _ h => h) (Or.inl ⟨by rfl, ?_⟩) (by assumption) ?_
              rotate_left
              · intro w _; go_simp; try with_reducible rfl
              try simp only [Act.put, List.getElem_toArray, List.getElem_cons_zero, List.getElem_cons_succ, List.setIfInBounds_toArray, List.set_cons_zero, List.set_cons_succ]
              refine wpAnyH_done (by kernel_rfl) ?_ _
              go_wp2_with fail
              go_meet
              exact ⟨⟨_, rfl, rfl⟩, hBe⟩
            · go_simp
              (refine hK.out _ _ (KEEP.out _ (((Below.alloc (Below.refl _ _) (Nat.le_refl _) _).alloc (by simp) _).drew)) (fun hSy => ?_))
              clear hK K
              have hSx := hSy; clear hSy
              try simp only [Act.put, List.getElem_toArray, List.getElem_cons_zero, List.getElem_cons_succ, List.setIfInBounds_toArray, List.set_cons_zero, List.set_cons_succ]
              refine wpAnyH_ready (rs := [4]) (by kernel_rfl) (by simp) ?_
              refine AllReadyH.cons rfl (fun K hK => ?_) AllReadyH.nil
              refine step_append_lies _ (by rfl) _ _ _ (by rfl) w9.heap.size 100 i0_Ev _ 5 40 Try.underlying76 hi_Ev hz0_Ev hz1_Ev hz2_Ev rfl (by omega) _ 0 _ (by rfl) ((((own_made_at rfl (Nat.le_refl _)).alloc _).drew)) ⟨w7.heap.size, 0, none⟩ 2 2 [.int .i64 P1, .int .i64 8, .int .i64 0, .int .i64 0, .int .i64 0, .int .i64 lv, .int .i64 9, .int .i64 0, .int .i64 0, .int .i64 0] (by rfl) (by rfl) (World.news_of_block (cs := #[.int .i64 P1, .int .i64 8, .int .i64 0, .int .i64 0, .int .i64 0, .int .i64 lv, .int .i64 9, .int .i64 0, .int .i64 0, .int .i64 0]) (t := 100) (fr := (0, 0)) (show ((World.drew (World.alloc (World.alloc w9 (.cells #[] 100)) (.cells #[.int .i64 z, .int .i64 5, .int .i64 cb, .int .i64 0, .int .i64 0] 100)))).heap[w7.heap.size]? = some (.cells #[.int .i64 P1, .int .i64 8, .int .i64 0, .int .i64 0, .int .i64 0, .int .i64 lv, .int .i64 9, .int .i64 0, .int .i64 0, .int .i64 0] 100 (0, 0)) from (alloc_lt _ _ _ (by simp; omega)).trans ((alloc_lt _ _ _ (by omega)).trans KL.out))) (List.all_eq_true.1 rfl) (by omega) (by unfold maxLen; omega) (by omega) (by first | go_size | (simp; omega)) _ rfl ?_
              intro gb qb Vb hownb hgb hatb hltb
              simp only [Nat.zero_add, List.nil_append] at hownb ⊢
              have hBb : Below w9.heap.size w9 Vb := (((Below.alloc (Below.refl _ _) (Nat.le_refl _) _).alloc (by simp) _).drew).grown hgb (by simp; omega) (fun k hk => by have := Option.some.inj (show some (w9.heap.size) = some k from hk); (try simp only [World.size_alloc] at this); omega)
              have sb := hgb.size; simp only [World.size_alloc, World.size_drew] at sb
              have kc : Vb.heap[w9.heap.size + 1]? = some (.cells #[.int .i64 z, .int .i64 5, .int .i64 cb, .int .i64 0, .int .i64 0] 100 (0, 0)) := (hgb.block _ (by simp only [World.size_drew, World.size_alloc]; omega) (fun h => by have := Option.some.inj (show some (w9.heap.size + 1) = some (w9.heap.size) from h); (try simp only [World.size_alloc] at this); omega)).trans (alloc_at _ _ _ (by simp))
              (refine hK.out _ _ (KEEP.out _ (hBb)) (fun hSy => ?_))
              clear hK K
              have hSx := hSy; clear hSy
              try simp only [Act.put, List.getElem_toArray, List.getElem_cons_zero, List.getElem_cons_succ, List.setIfInBounds_toArray, List.set_cons_zero, List.set_cons_succ]
              refine wpAnyH_ready (rs := [11]) (by kernel_rfl) (by simp) ?_
              refine AllReadyH.cons rfl (fun K hK => ?_) AllReadyH.nil
              refine step_append_lies _ (by rfl) _ _ _ (by rfl) w9.heap.size 100 i0_Ev _ 5 40 Try.underlying76 hi_Ev hz0_Ev hz1_Ev hz2_Ev rfl (by omega) _ 2 _ (by rfl) (hownb) ⟨w9.heap.size + 1, 0, none⟩ 1 1 [.int .i64 z, .int .i64 5, .int .i64 cb, .int .i64 0, .int .i64 0] (by rfl) (by rfl) (World.news_of_block (cs := #[.int .i64 z, .int .i64 5, .int .i64 cb, .int .i64 0, .int .i64 0]) (t := 100) (fr := (0, 0)) kc) (List.all_eq_true.1 rfl) (by omega) (by unfold maxLen; omega) (by omega) (by first | go_size | (simp; omega)) _ rfl ?_
              intro gd qd Vd hownd hgd hatd hltd
              simp only [Nat.reduceAdd] at hownd ⊢
              have hBd : Below w9.heap.size w9 Vd := hBb.grown hgd (by omega) (fun k hk => by have := (hownb.lt k hk).1; omega)
              have sd := hBd.size
              (refine hK.out _ _ (KEEP.out _ (hBd)) (fun hSy => ?_))
              clear hK K
              have hSx := hSy; clear hSy
              try simp only [Act.put, List.getElem_toArray, List.getElem_cons_zero, List.getElem_cons_succ, List.setIfInBounds_toArray, List.set_cons_zero, List.set_cons_succ]
              refine wpAnyH_ready (rs := [12]) (by kernel_rfl) (by simp) ?_
              refine AllReadyH.cons rfl (fun K hK => ?_) AllReadyH.nil
              go_simp
              refine (spec_TraceFault_3 g 8 P1 now z cb (some ⟨gd, 0, none⟩) qd nb _ (isStructs_own (B := w9.heap.size) (E := 100) evF_len (by omega) (by rw [wk3, HLV.out]; exact hownd)) HG.out HNB.out (.inr rfl) HPN.out.1 HPN.out.2 (by rw [HZ.out]) HCB.out).mono ?_
              rintro ex Ve ⟨⟨ye, rfl⟩, hye⟩
              have hBe : Below w9.heap.size w9 Ve := bthen hBd hye sd
              (refine hK.out _ _ (KEEP.out _ (hBe)) (fun hSy => ?_))
              clear hK K
              have hSx := hSy; clear hSy
              try simp only [Act.put, List.getElem_toArray, List.getElem_cons_zero, List.getElem_cons_succ, List.setIfInBounds_toArray, List.set_cons_zero, List.set_cons_succ]
              refine wpAnyH_take (i := 13) (v := ?_) rfl (by kernel_rfl) (by kernel_rfl) (by kernel_rfl) (fun _ _ _ h => h) (Or.inl ⟨by rfl, ?_⟩) (by assumption) ?_
              rotate_left
              · intro w _; go_simp; try with_reducible rfl
              try simp only [Act.put, List.getElem_toArray, List.getElem_cons_zero, List.getElem_cons_succ, List.setIfInBounds_toArray, List.set_cons_zero, List.set_cons_succ]
              refine wpAnyH_take (i := 14) (v := ?_) rfl (by kernel_rfl) (by kernel_rfl) (by kernel_rfl) (fun _ _ _ h => h) (Or.inl ⟨by rfl, ?_⟩) (by assumption) ?_
              rotate_left
              · intro w _; go_simp; try with_reducible rfl
              try simp only [Act.put, List.getElem_toArray, List.getElem_cons_zero, List.getElem_cons_succ, List.setIfInBounds_toArray, List.set_cons_zero, List.set_cons_succ]
              refine wpAnyH_take (i := 15) (v := ?_) rfl (by kernel_rfl) (by kernel_rfl) (by kernel_rfl) (fun _ _ _ h => h) (Or.inl ⟨by rfl, ?_⟩) (by assumption) ?_
              rotate_left
              · intro w _; go_simp; try with_reducible rfl
              try simp only [Act.put, List.getElem_toArray, List.getElem_cons_zero, List.getElem_cons_succ, List.setIfInBounds_toArray, List.set_cons_zero, List.set_cons_succ]
              refine wpAnyH_take (i := 16) (v := ?_) rfl (by kernel_rfl) (by kernel_rfl) (by kernel_rfl) (fun _ _ _ h => h) (Or.inl ⟨by rfl, ?_⟩) (by assumption) ?_
              rotate_left
              · intro w _; go_simp; try with_reducible rfl
              try simp only [Act.put, List.getElem_toArray, List.getElem_cons_zero, List.getElem_cons_succ, List.setIfInBounds_toArray, List.set_cons_zero, List.set_cons_succ]
              refine wpAnyH_take (i := 17) (v := ?_) rfl (by kernel_rfl) (by kernel_rfl) (by kernel_rfl) (fun _ _ _ h => h) (Or.inl ⟨by rfl, ?_⟩) (by assumption) ?_
              rotate_left
              · intro w _; go_simp; try with_reducible rfl
              try simp only [Act.put, List.getElem_toArray, List.getElem_cons_zero, List.getElem_cons_succ, List.setIfInBounds_toArray, List.set_cons_zero, List.set_cons_succ]
              refine wpAnyH_done (by kernel_rfl) ?_ _
              go_wp2_with fail
              go_meet
              exact ⟨⟨_, rfl, rfl⟩, hBe⟩
          · go_simp
            (refine hK.out _ _ (KEEP.out _ ((Below.alloc (Below.refl _ _) (Nat.le_refl _) _).drew)) (fun hSy => ?_))
            clear hK K
            have hSx := hSy; clear hSy
            try simp only [Act.put, List.getElem_toArray, List.getElem_cons_zero, List.getElem_cons_succ, List.setIfInBounds_toArray, List.set_cons_zero, List.set_cons_succ]
            refine wpAnyH_ready (rs := [2]) (by kernel_rfl) (by simp) ?_
            refine AllReadyH.cons rfl (fun K hK => ?_) AllReadyH.nil
            go_simp
            (refine hK.out _ _ (KEEP.out _ (((Below.alloc (Below.refl _ _) (Nat.le_refl _) _).alloc (by simp) _).drew)) (fun hSy => ?_))
            clear hK K
            have hSx := hSy; clear hSy
            try simp only [Act.put, List.getElem_toArray, List.getElem_cons_zero, List.getElem_cons_succ, List.setIfInBounds_toArray, List.set_cons_zero, List.set_cons_succ]
            refine wpAnyH_ready (rs := [4]) (by kernel_rfl) (by simp) ?_
            refine AllReadyH.cons rfl (fun K hK => ?_) AllReadyH.nil
            refine step_append_lies _ (by rfl) _ _ _ (by rfl) w9.heap.size 100 i0_Ev _ 5 40 Try.underlying76 hi_Ev hz0_Ev hz1_Ev hz2_Ev rfl (by omega) _ 0 _ (by rfl) (((own_made_at (by simp) (by simp)).drew)) ⟨w7.heap.size, 0, none⟩ 2 2 [.int .i64 P1, .int .i64 8, .int .i64 0, .int .i64 0, .int .i64 0, .int .i64 lv, .int .i64 9, .int .i64 0, .int .i64 0, .int .i64 0] (by rfl) (by rfl) (World.news_of_block (cs := #[.int .i64 P1, .int .i64 8, .int .i64 0, .int .i64 0, .int .i64 0, .int .i64 lv, .int .i64 9, .int .i64 0, .int .i64 0, .int .i64 0]) (t := 100) (fr := (0, 0)) (show ((World.drew (World.alloc (World.alloc w9 (.cells #[.int .i64 z, .int .i64 5, .int .i64 cb, .int .i64 0, .int .i64 0] 100)) (.cells #[] 100)))).heap[w7.heap.size]? = some (.cells #[.int .i64 P1, .int .i64 8, .int .i64 0, .int .i64 0, .int .i64 0, .int .i64 lv, .int .i64 9, .int .i64 0, .int .i64 0, .int .i64 0] 100 (0, 0)) from (alloc_lt _ _ _ (by simp; omega)).trans ((alloc_lt _ _ _ (by omega)).trans KL.out))) (List.all_eq_true.1 rfl) (by omega) (by unfold maxLen; omega) (by omega) (by first | go_size | (simp; omega)) _ rfl ?_
            intro gb qb Vb hownb hgb hatb hltb
            simp only [Nat.zero_add, List.nil_append] at hownb ⊢
            have hBb : Below w9.heap.size w9 Vb := (((Below.alloc (Below.refl _ _) (Nat.le_refl _) _).alloc (by simp) _).drew).grown hgb (by simp; omega) (fun k hk => by have := Option.some.inj (show some (w9.heap.size + 1) = some k from hk); (try simp only [World.size_alloc] at this); omega)
            have sb := hgb.size; simp only [World.size_alloc, World.size_drew] at sb
            have kc : Vb.heap[w9.heap.size]? = some (.cells #[.int .i64 z, .int .i64 5, .int .i64 cb, .int .i64 0, .int .i64 0] 100 (0, 0)) := (hgb.block _ (by simp only [World.size_drew, World.size_alloc]; omega) (fun h => by have := Option.some.inj (show some (w9.heap.size) = some (w9.heap.size + 1) from h); (try simp only [World.size_alloc] at this); omega)).trans ((alloc_lt _ _ _ (by simp)).trans (alloc_at _ _ _ rfl))
            (refine hK.out _ _ (KEEP.out _ (hBb)) (fun hSy => ?_))
            clear hK K
            have hSx := hSy; clear hSy
            try simp only [Act.put, List.getElem_toArray, List.getElem_cons_zero, List.getElem_cons_succ, List.setIfInBounds_toArray, List.set_cons_zero, List.set_cons_succ]
            refine wpAnyH_ready (rs := [11]) (by kernel_rfl) (by simp) ?_
            refine AllReadyH.cons rfl (fun K hK => ?_) AllReadyH.nil
            refine step_append_lies _ (by rfl) _ _ _ (by rfl) w9.heap.size 100 i0_Ev _ 5 40 Try.underlying76 hi_Ev hz0_Ev hz1_Ev hz2_Ev rfl (by omega) _ 2 _ (by rfl) (hownb) ⟨w9.heap.size, 0, none⟩ 1 1 [.int .i64 z, .int .i64 5, .int .i64 cb, .int .i64 0, .int .i64 0] (by rfl) (by rfl) (World.news_of_block (cs := #[.int .i64 z, .int .i64 5, .int .i64 cb, .int .i64 0, .int .i64 0]) (t := 100) (fr := (0, 0)) kc) (List.all_eq_true.1 rfl) (by omega) (by unfold maxLen; omega) (by omega) (by first | go_size | (simp; omega)) _ rfl ?_
            intro gd qd Vd hownd hgd hatd hltd
            simp only [Nat.reduceAdd] at hownd ⊢
            have hBd : Below w9.heap.size w9 Vd := hBb.grown hgd (by omega) (fun k hk => by have := (hownb.lt k hk).1; omega)
            have sd := hBd.size
            (refine hK.out _ _ (KEEP.out _ (hBd)) (fun hSy => ?_))
            clear hK K
            have hSx := hSy; clear hSy
            try simp only [Act.put, List.getElem_toArray, List.getElem_cons_zero, List.getElem_cons_succ, List.setIfInBounds_toArray, List.set_cons_zero, List.set_cons_succ]
            refine wpAnyH_ready (rs := [12]) (by kernel_rfl) (by simp) ?_
            refine AllReadyH.cons rfl (fun K hK => ?_) AllReadyH.nil
            go_simp
            refine (spec_TraceFault_3 g 8 P1 now z cb (some ⟨gd, 0, none⟩) qd nb _ (isStructs_own (B := w9.heap.size) (E := 100) evF_len (by omega) (by rw [wk3, HLV.out]; exact hownd)) HG.out HNB.out (.inr rfl) HPN.out.1 HPN.out.2 (by rw [HZ.out]) HCB.out).mono ?_
            rintro ex Ve ⟨⟨ye, rfl⟩, hye⟩
            have hBe : Below w9.heap.size w9 Ve := bthen hBd hye sd
            (refine hK.out _ _ (KEEP.out _ (hBe)) (fun hSy => ?_))
            clear hK K
            have hSx := hSy; clear hSy
            try simp only [Act.put, List.getElem_toArray, List.getElem_cons_zero, List.getElem_cons_succ, List.setIfInBounds_toArray, List.set_cons_zero, List.set_cons_succ]
            refine wpAnyH_take (i := 13) (v := ?_) rfl (by kernel_rfl) (by kernel_rfl) (by kernel_rfl) (fun _ _ _ h => h) (Or.inl ⟨by rfl, ?_⟩) (by assumption) ?_
            rotate_left
            · intro w _; go_simp; try with_reducible rfl
            try simp only [Act.put, List.getElem_toArray, List.getElem_cons_zero, List.getElem_cons_succ, List.setIfInBounds_toArray, List.set_cons_zero, List.set_cons_succ]
            refine wpAnyH_take (i := 14) (v := ?_) rfl (by kernel_rfl) (by kernel_rfl) (by kernel_rfl) (fun _ _ _ h => h) (Or.inl ⟨by rfl, ?_⟩) (by assumption) ?_
            rotate_left
            · intro w _; go_simp; try with_reducible rfl
            try simp only [Act.put, List.getElem_toArray, List.getElem_cons_zero, List.getElem_cons_succ, List.setIfInBounds_toArray, List.set_cons_zero, List.set_cons_succ]
            refine wpAnyH_take (i := 15) (v := ?_) rfl (by kernel_rfl) (by kernel_rfl) (by kernel_rfl) (fun _ _ _ h => h) (Or.inl ⟨by rfl, ?_⟩) (by assumption) ?_
            rotate_left
            · intro w _; go_simp; try with_reducible rfl
            try simp only [Act.put, List.getElem_toArray, List.getElem_cons_zero, List.getElem_cons_succ, List.setIfInBounds_toArray, List.set_cons_zero, List.set_cons_succ]
            refine wpAnyH_take (i := 16) (v := ?_) rfl (by kernel_rfl) (by kernel_rfl) (by kernel_rfl) (fun _ _ _ h => h) (Or.inl ⟨by rfl, ?_⟩) (by assumption) ?_
            rotate_left
            · intro w _; go_simp; try with_reducible rfl
            try simp only [Act.put, List.getElem_toArray, List.getElem_cons_zero, List.getElem_cons_succ, List.setIfInBounds_toArray, List.set_cons_zero, List.set_cons_succ]
            refine wpAnyH_take (i := 17) (v := ?_) rfl (by kernel_rfl) (by kernel_rfl) (by kernel_rfl) (fun _ _ _ h => h) (Or.inl ⟨by rfl, ?_⟩) (by assumption) ?_
            rotate_left
            · intro w _; go_simp; try with_reducible rfl
            try simp only [Act.put, List.getElem_toArray, List.getElem_cons_zero, List.getElem_cons_succ, List.setIfInBounds_toArray, List.set_cons_zero, List.set_cons_succ]
            refine wpAnyH_done (by kernel_rfl) ?_ _
            go_wp2_with fail
            go_meet
            exact ⟨⟨_, rfl, rfl⟩, hBe⟩
        case rest =>
          obtain ⟨⟨y10, rfl, rfl⟩, hB10⟩ := hcut
          obtain ⟨w10, rfl⟩ : ∃ V : World, V = wc := ⟨_, rfl⟩
          have KT10 := hide ((hB10.block _ lt9).trans KT9.out)
          have HB10 := hide (bthen HB9.out hB10 HB9.out.size)
          clear lt9 lg9 lc9 KT9 KG9 KC9 HB9 hB10 KEEP i0_Ev hi_Ev hz0_Ev hz1_Ev hz2_Ev
          go_wp2_with (refine wpList_load_on (by rfl) 73 _ rfl w2.heap.size rfl 73 (tmC fast).toArray (0, 0) _ KT10.out Try.underlying73 (tmC_info fast) ?_)
          refine (wake1 now (by omega) _).mono ?_
          rintro e w11 ⟨rfl, h11⟩
          go_wp2_with fail
          go_ret
          exact ⟨rfl, bthen HB10.out h11 HB10.out.size⟩
  · go_enter Try.func12, Try.ntmps12
    go_wp2_with fail
    refine (laws_big_yes a n c _ hm hc hs).mono ?_
    rintro e w' ⟨rfl, rfl⟩
    go_wp2_with fail
    go_ret
    exact ⟨rfl, by go_grown⟩

set_option maxRecDepth 100000 in
theorem FnWake_lifted (os : Os) (started : os.Started) (H : Type) (enc : TypeId × Value → H) :
    ReturnsInHanded {} Try.checked os 12 .any (Rows.fnWakeSpec.pre6 enc Try.prog Try.f12 Rows.fnWakeRow.domain false) (Rows.fnWakeSpec.post enc Try.prog Try.f12 false true false false) := by
  refine returnsInHanded_of_change (C := Try.checked) try_own started (by kernel_rfl) Try.func12
    (ChangeSpec.witness6 (enc := enc) (C := Try.checked) false ⟨#[], #[.slice none 0 0], []⟩ 8 (by kernel_rfl) (by kernel_rfl) (by kernel_rfl) (by kernel_rfl)) ?_
  intro W base args ds gs before hval0 hW _ _
  have hval : ∀ (j : Nat) t v, Try.f12.params[j]? = some t → args[j]? = some v → Value.okWide Try.prog W .any base t v := hval0
  have hW' := hW
  obtain ⟨p, q, hA0, hV, rfl, hfz, hnd⟩ := hW
  have hA : DataW.TrodAll enc Try.prog W 0 (fun _ => true) true Try.f12.params.toList args.toList ds p := hA0
  rw [Try.params12] at hA hval
  obtain ⟨v0, vs0, d0, ds0, p0, q0, hargs, rfl, rfl, h0, r0⟩ := trodAll_cons hA
  obtain ⟨rfl, rfl, rfl⟩ := trodAll_nil r0
  obtain rfl : args = #[v0] := by cases args; simp_all
  obtain ⟨rfl, rfl⟩ := trodVars_none hV
  have k0 := h0
  have lt0 : ∀ x ∈ p0, x.block < W.heap.size := by obtain ⟨m, hm⟩ := k0; exact DataW.trod_lt m _ _ _ hm
  obtain ⟨b_x0, m_x0, l_x0, rfl⟩ := okWide_slice Try.underlying22 (hval 0 22 v0 rfl rfl)
  obtain ⟨fu0, h0⟩ := h0
  obtain ⟨a_x0, n_x0, c_x0, x0, e_x0, w_x0⟩ := isBytes_of Try.underlying22 Try.underlying5 (by kernel_rfl) h0
  simp only [Value.cells, List.cons.injEq, and_true] at e_x0
  obtain ⟨q1, q2, q3⟩ : b_x0 = a_x0 ∧ m_x0 = n_x0 ∧ l_x0 = c_x0 := by simpa using e_x0
  replace q1 := q1.symm; replace q2 := q2.symm; replace q3 := q3.symm; subst q1 q2 q3
  clear hA0 hval0
  refine (FnWake_walk a_x0 n_x0 c_x0 x0 W w_x0).mono fun e W' ⟨he, bel⟩ => ?_
  subst he
  exact ⟨_, rfl, _, _, _, [], _, [], hW', trodAll_mk1 (shut_bool Try.underlying4 _), (trodAll_cons_mk (Below.trod try_laidOut (by kernel_rfl) (of_decide_eq_true (by kernel_rfl)) k0 bel lt0) trodAll_mk0), rfl, bel.frame _, fun h => by cases h⟩

theorem FnWake_holds : Rows.FnWakeSaid :=
  OpenClaim.holds_of_wide 12 Try.f12 rfl rfl rfl rfl rfl rfl rfl ⟨rfl, rfl, rfl, rfl, rfl⟩ rfl rfl rfl rfl rfl (by kernel_rfl) Try.func12 (by kernel_rfl)
    (of_decide_eq_true (by kernel_rfl)) (by unfold Func.isWrapper; rw [if_neg (of_decide_eq_false (by kernel_rfl))]; exact ⟨rfl, rfl⟩)
    (fun os started H enc _ => FnWake_lifted os started H enc)
#print axioms FnWake_holds
end Go.Proofs.Ytahfbhfmhccgoaa
