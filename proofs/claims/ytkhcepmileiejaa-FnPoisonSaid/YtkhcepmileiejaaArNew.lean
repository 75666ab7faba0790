/- A new array of a geometry: every line empty, no age, no hits. -/
import Derived.Test.YtkhcepmileiejaaGets
import Derived.Test.YtkhcepmileiejaaEncS
import Derived.Test.YtkhcepmileiejaaLawA
import Derived.Deep.DeepCutAuto
set_option linter.unusedSimpArgs false
set_option linter.unusedVariables false
namespace Go.Proofs.Ytkhcepmileiejaa
open Go.RowKit Go.ChangeShapes Go.WideShapes Go.ChangeAt Go.Joins Go.Deep
open Go.ChangeMaps (open_string shut_string)
/-- Two rows set behind a header. -/
theorem Half.putAge {lo p : Nat} {w : World} {A : Ar} {r : Hd × List Int} (h : Half lo p w A) (hr : OwnI lo w.heap.size w r) (hap : ∀ s ∈ A.rows, Apart s.1.a r.1.a) (hao : Apart r.1.a A.a) (hrp : Apart r.1.a (some ⟨p, 0, none⟩)) :
    Half lo p (w.setCell ⟨p, 1, none⟩ (.slice r.1.a r.1.n r.1.c)) { A with ag := r } := by
  have h1 := (h.own.setAge hr hap hao)
  have hr2 : ∀ s ∈ ({ A with ag := r } : Ar).rows, Apart s.1.a (some ⟨p, 0, none⟩) := by
    intro s hs
    simp only [Ar.rows, List.mem_cons] at hs
    rcases hs with rfl | rfl | hs
    · exact hrp
    · exact h.rows _ (by simp [Ar.rows])
    · exact h.rows s (by simp only [Ar.rows, List.mem_cons]; exact .inr (.inr hs))
  refine ⟨?_, set_lit h.blk rfl, hr2, h.out⟩
  rw [World.size_setCell]
  exact h1.far (OneW.set (g := p) (o := 1) _) h.out.symm (fun s hs => (hr2 s hs).symm)
theorem Half.putHits {lo p : Nat} {w : World} {A : Ar} {r : Hd × List Int} (h : Half lo p w A) (hr : OwnI lo w.heap.size w r) (hap : ∀ s ∈ A.rows, Apart s.1.a r.1.a) (hao : Apart r.1.a A.a) (hrp : Apart r.1.a (some ⟨p, 0, none⟩)) :
    Half lo p (w.setCell ⟨p, 2, none⟩ (.slice r.1.a r.1.n r.1.c)) { A with ht := r } := by
  have h1 := (h.own.setHits hr hap hao)
  have hr2 : ∀ s ∈ ({ A with ht := r } : Ar).rows, Apart s.1.a (some ⟨p, 0, none⟩) := by
    intro s hs
    simp only [Ar.rows, List.mem_cons] at hs
    rcases hs with rfl | rfl | hs
    · exact h.rows _ (by simp [Ar.rows])
    · exact hrp
    · exact h.rows s (by simp only [Ar.rows, List.mem_cons]; exact .inr (.inr hs))
  refine ⟨?_, set_lit h.blk rfl, hr2, h.out⟩
  rw [World.size_setCell]
  exact h1.far (OneW.set (g := p) (o := 2) _) h.out.symm (fun s hs => (hr2 s hs).symm)
theorem zeros_wf (n : Nat) : ∀ z ∈ List.replicate n (0 : Int), (Lit.int .i64 z).wf = true := by
  intro z hz
  rw [List.mem_replicate] at hz
  rw [hz.2]; decide
theorem un_drew {y z : World} {r : Option Nat} (hg : (World.drew y).grownBy z r) : y.grownBy z r := ⟨hg.os, hg.tape, hg.output, hg.size, hg.block⟩
def zero11 : List Int := [0, 0, 0, 0, 0, 0, 0, 0, 0, 0, 0]
theorem zero11_ok : symOkB zero11 11 = true := by decide
def newCon (g : Ge) : Con := ⟨List.replicate (lineCnt g).toNat (zero11, false), List.replicate (bankCnt g * g.rw).toNat 0, List.replicate (bankCnt g * g.rw).toNat 0⟩
theorem newCon_ok {g : Ge} (hg : geoOk g = true) : arOk g (newCon g) = true := by
  have h1 := lineCnt_bd g
  have h2 := rows_bd hg
  have h3 : bankCnt g * g.rw = g.gr * g.bk * g.rw := by unfold bankCnt; rw [if_pos hg]
  simp only [arOk, newCon, hg, List.length_replicate, Bool.true_and, Bool.and_eq_true, beq_iff_eq, List.all_eq_true, List.mem_replicate]
  refine ⟨⟨by omega, by omega, by omega⟩, fun c hc => by rw [hc.2]; exact zero11_ok, fun z hz => by rw [hz.2]; decide, fun z hz => by rw [hz.2]; decide⟩
/-- A new array of the call's own, valid. -/
def GotNew (g : Ge) (w : World) (e : Ending) (w' : World) : Prop :=
  ∃ A : Ar, e = .returned (.agg #[.slice A.a A.n A.c, .slice A.ag.1.a A.ag.1.n A.ag.1.c, .slice A.ht.1.a A.ht.1.n A.ht.1.c]) ∧ OwnAr w.heap.size w'.heap.size w' A ∧ arOk g A.con = true ∧ Below w.heap.size w w'
set_option maxRecDepth 100000 in
set_option maxHeartbeats 4000000 in
theorem spec_ArrayNew (g : Ge) (w : World) (hg : geoOk g = true) :
    Calls Try.prog 88 #[.agg #[.int .i64 g.gr, .int .i64 g.bk, .int .i64 g.rw, .int .i64 g.cl]] w (GotNew g w) := by
  obtain ⟨i0_int, hi_int, hz0_int, hz1_int, hz2_int⟩ := info_parts info_int
  obtain ⟨i0_Cell, hi_Cell, hz0_Cell, hz1_Cell, hz2_Cell⟩ := info_parts info_Cell
  obtain ⟨lc, hlc⟩ : ∃ lc : Nat, lineCnt g = (lc : Int) := ⟨(lineCnt g).toNat, by have := lineCnt_bd g; omega⟩
  have hl1 : lc ≤ 1024 := by have := lineCnt_bd g; omega
  obtain ⟨bc, hbc⟩ : ∃ bc : Int, bankCnt g = bc := ⟨_, rfl⟩
  have hbd := bankCnt_bd g
  rw [hbc] at hbd
  have hb0 := hbd.1; have hb1 := hbd.2
  obtain ⟨_, _, _, _, g5, g6, _, _⟩ := geoOk_bd hg
  obtain ⟨mi, hmi, hm0, hm1⟩ := rows_wrap g
  obtain ⟨m, rfl⟩ : ∃ m : Nat, mi = (m : Int) := ⟨mi.toNat, by omega⟩
  rw [hbc] at hmi
  have hm := hmi
  have HNEW := hide (show newCon g = ⟨List.replicate lc (zero11, false), List.replicate m 0, List.replicate m 0⟩ by unfold newCon; rw [hlc, hbc, hm]; rfl)
  have HLC := hide hlc; have HBC := hide hbc; have HM := hide hm; have HG := hide hg
  have hWm : IntKind.i64.wrap (bc * g.rw) = (m : Int) := by rw [hm]; exact IntWalk.i64_in _ (by omega)
  have HWM := hide hWm
  clear hlc hbc hm hmi hg hbd hWm
  have hmk : ∀ v : World, (Instr.makeSlice 25 (.int .i64 11) (.int .i64 11)).run Try.prog v = .ok (.slice (some ⟨v.heap.size, 0, none⟩) 11 11) (v.alloc (.cells #[.int .i64 0, .int .i64 0, .int .i64 0, .int .i64 0, .int .i64 0, .int .i64 0, .int .i64 0, .int .i64 0, .int .i64 0, .int .i64 0, .int .i64 0] 3)) := fun _ => by kernel_rfl
  go_enter Try.func88, Try.ntmps88
  go_wp2_with fail
  have hF0 : Half (w.heap.size + 3) (w.heap.size + 1 + 1) (((w.alloc (.cells #[.int .i64 g.gr, .int .i64 g.bk, .int .i64 g.rw, .int .i64 g.cl] 30)).alloc (.cells #[.slice none 0 0, .slice none 0 0, .slice none 0 0] 34)).alloc (.cells #[.slice none 0 0, .slice none 0 0, .slice none 0 0] 34)) ⟨none, 0, 0, [], nilR, nilR⟩ :=
    ⟨⟨⟨⟨rfl, .inl ⟨rfl, rfl⟩⟩, fun x hx => by cases hx⟩, Sep.nil _ _ _ _⟩, alloc_at _ _ _ (by simp), fun r hr => by simp [Ar.rows] at hr; subst hr; exact Apart.none_left _, Apart.none_left _⟩
  have hB0 : Below w.heap.size w (((w.alloc (.cells #[.int .i64 g.gr, .int .i64 g.bk, .int .i64 g.rw, .int .i64 g.cl] 30)).alloc (.cells #[.slice none 0 0, .slice none 0 0, .slice none 0 0] 34)).alloc (.cells #[.slice none 0 0, .slice none 0 0, .slice none 0 0] 34)) := by go_grown
  have k0 : (((w.alloc (.cells #[.int .i64 g.gr, .int .i64 g.bk, .int .i64 g.rw, .int .i64 g.cl] 30)).alloc (.cells #[.slice none 0 0, .slice none 0 0, .slice none 0 0] 34)).alloc (.cells #[.slice none 0 0, .slice none 0 0, .slice none 0 0] 34)).heap[w.heap.size]? = some (.cells #[.int .i64 g.gr, .int .i64 g.bk, .int .i64 g.rw, .int .i64 g.cl] 30 (0, 0)) := by rw [alloc_lt _ _ _ (by simp; try omega), alloc_lt _ _ _ (by simp; try omega)]; exact alloc_at _ _ _ (by simp)
  have k1 : (((w.alloc (.cells #[.int .i64 g.gr, .int .i64 g.bk, .int .i64 g.rw, .int .i64 g.cl] 30)).alloc (.cells #[.slice none 0 0, .slice none 0 0, .slice none 0 0] 34)).alloc (.cells #[.slice none 0 0, .slice none 0 0, .slice none 0 0] 34)).heap[w.heap.size + 1]? = some (.cells #[.slice none 0 0, .slice none 0 0, .slice none 0 0] 34 (0, 0)) := by rw [alloc_lt _ _ _ (by simp; try omega)]; exact alloc_at _ _ _ (by simp)
  have hs0 : w.heap.size + 3 ≤ (((w.alloc (.cells #[.int .i64 g.gr, .int .i64 g.bk, .int .i64 g.rw, .int .i64 g.cl] 30)).alloc (.cells #[.slice none 0 0, .slice none 0 0, .slice none 0 0] 34)).alloc (.cells #[.slice none 0 0, .slice none 0 0, .slice none 0 0] 34)).heap.size := by simp
  generalize (((w.alloc (.cells #[.int .i64 g.gr, .int .i64 g.bk, .int .i64 g.rw, .int .i64 g.cl] 30)).alloc (.cells #[.slice none 0 0, .slice none 0 0, .slice none 0 0] 34)).alloc (.cells #[.slice none 0 0, .slice none 0 0, .slice none 0 0] 34)) = V0 at *
  have K0 := hide k0; have K1 := hide k1; have HF0 := hide hF0; have HB0 := hide hB0
  clear k0 k1 hF0 hB0
  go_wp2_with fail
  go_loopw [4] (fun vi wr => ∃ (k : Nat) (a' : Option Addr) (c' : Nat) (gs : List Cl), k ≤ lc ∧ vi = .int .i64 k ∧ Hid (gs.map conC = List.replicate k (zero11, false)) ∧ Hid (Half (w.heap.size + 3) (w.heap.size + 1 + 1) wr ⟨a', k, c', gs, nilR, nilR⟩) ∧ Hid (wr.heap[w.heap.size]? = some (.cells #[.int .i64 g.gr, .int .i64 g.bk, .int .i64 g.rw, .int .i64 g.cl] 30 (0, 0))) ∧ Hid (wr.heap[w.heap.size + 1]? = some (.cells #[.slice none 0 0, .slice none 0 0, .slice none 0 0] 34 (0, 0))) ∧ Hid (Below w.heap.size w wr) ∧ w.heap.size + 3 ≤ wr.heap.size) (fun vi _ => lc - (intOf vi).toNat)
  case atStart => exact ⟨0, none, 0, [], by omega, rfl, hide rfl, HF0, K0, K1, HB0, hs0⟩
  case round =>
    clear HF0 K0 K1 HB0 hs0
    obtain ⟨k, a', c', gs, hk, rfl, HGS, HF, K0, K1, HB, hsr⟩ := hrel
    have e_g0 := cell_blk K0.out 0; have e_g1 := cell_blk K0.out 1; have e_g2 := cell_blk K0.out 2; have e_g3 := cell_blk K0.out 3
    go_wp2_with fail
    refine (spec_LineCount_is g lc HLC.out _).mono ?_
    rintro ex w1 ⟨rfl, h1⟩
    clear e_g0 e_g1 e_g2 e_g3
    have s1 := h1.size
    have HF1 := hide (HF.out.below h1)
    have j0 := blk_below h1 K0.out (lt_blk K0.out); have j1 := blk_below h1 K1.out (lt_blk K1.out)
    have HB1 := hide (bthen HB.out h1 (by omega))
    have J0 := hide j0; have J1 := hide j1
    clear j0 j1 HF K0 K1 HB
    by_cases hlt : k < lc
    · obtain ⟨_, c0, f0, _, hpl, hpn⟩ := HF1.out.step (Below.refl _ _)
      have hBz : Below w1.heap.size w1 (w1.alloc (.cells #[.int .i64 0, .int .i64 0, .int .i64 0, .int .i64 0, .int .i64 0, .int .i64 0, .int .i64 0, .int .i64 0, .int .i64 0, .int .i64 0, .int .i64 0] 3)) := Below.alloc (Below.refl _ _) (Nat.le_refl _) _
      have HFz := hide (HF1.out.below hBz)
      have HOz := hide (show (w1.alloc (.cells #[.int .i64 0, .int .i64 0, .int .i64 0, .int .i64 0, .int .i64 0, .int .i64 0, .int .i64 0, .int .i64 0, .int .i64 0, .int .i64 0, .int .i64 0] 3)).ownsRow (w.heap.size + 3) 70 2 (.slice a' k c') k (gs.flatMap clF) from HFz.out.own.outer.1)
      have hrow := OwnI.of_own (zs := zero11) (own_lit w1 w1.heap.size 3 #[.int .i64 0, .int .i64 0, .int .i64 0, .int .i64 0, .int .i64 0, .int .i64 0, .int .i64 0, .int .i64 0, .int .i64 0, .int .i64 0, .int .i64 0] 11 rfl (by decide) (Nat.le_refl _)) (by intro z hz; simp [zero11] at hz; subst hz; decide)
      have HRow := hide hrow
      have hsz : (w1.alloc (.cells #[.int .i64 0, .int .i64 0, .int .i64 0, .int .i64 0, .int .i64 0, .int .i64 0, .int .i64 0, .int .i64 0, .int .i64 0, .int .i64 0, .int .i64 0] 3)).heap.size = w1.heap.size + 1 := by simp
      have HSZ := hide hsz
      clear hrow hBz hsz
      have c1 : (w1.alloc (.cells #[.int .i64 0, .int .i64 0, .int .i64 0, .int .i64 0, .int .i64 0, .int .i64 0, .int .i64 0, .int .i64 0, .int .i64 0, .int .i64 0, .int .i64 0] 3)).cell? ⟨w.heap.size + 1 + 1, 0, none⟩ = some (.slice a' k c') := by rw [World.cell?_alloc_lt _ _ _ (by show w.heap.size + 1 + 1 < w1.heap.size; omega)]; exact c0
      have c2 : ((w1.alloc (.cells #[.int .i64 0, .int .i64 0, .int .i64 0, .int .i64 0, .int .i64 0, .int .i64 0, .int .i64 0, .int .i64 0, .int .i64 0, .int .i64 0, .int .i64 0] 3)).alloc (.cells #[.slice (some ⟨w1.heap.size, 0, none⟩) 11 11, .bool false] 70)).cell? ⟨w.heap.size + 1 + 1, 0, none⟩ = some (.slice a' k c') := by rw [World.cell?_alloc_lt _ _ _ (by simp; omega)]; exact c1
      go_wp2_with fail
      go_region_law (refine step_append_lies _ (by rfl) _ _ _ (by rfl) (w.heap.size + 3) 70 i0_Cell _ 2 32 Try.underlying32 hi_Cell hz0_Cell hz1_Cell hz2_Cell rfl (by omega) _ _ _ (by rfl) ((HOz.out.alloc _).drew) ⟨w1.heap.size + 1, 0, none⟩ 1 1 [.slice (some ⟨w1.heap.size, 0, none⟩) 11 11, .bool false] (by rfl) (by rfl) (World.news_of_block (cs := #[.slice (some ⟨w1.heap.size, 0, none⟩) 11 11, .bool false]) (t := 70) (fr := (0, 0)) (alloc_at _ _ _ (by simp))) (List.all_eq_true.1 rfl) (by omega) (by unfold maxLen; omega) (by omega) (by first | go_size | (simp; omega)) (w1.heap.size + 1 + 1) (by simp) ?_; intro gp cp wp hownp hgp hatp hltp; replace hgp := un_drew hgp; obtain ⟨kp, kpf⟩ := HFz.out.grown2 hgp)
      all_goals
        have ap := hide (HF1.out.apart (Nat.le_refl _) (fun x hx => (HRow.out.1.lt hx).1))
        have HPu := hide (HFz.out.push (f := false) (r := (⟨some ⟨w1.heap.size, 0, none⟩, 11, 11⟩, zero11)) (HRow.out.wide (by omega) (Nat.le_refl _)) ap.out.1 ap.out.2.1 ap.out.2.2 hgp hownp (by rcases hatp with h | h; exact .inl h; exact .inr (by rw [HSZ.out]; exact h)))
        have hbz : Below w.heap.size w (w1.alloc (.cells #[.int .i64 0, .int .i64 0, .int .i64 0, .int .i64 0, .int .i64 0, .int .i64 0, .int .i64 0, .int .i64 0, .int .i64 0, .int .i64 0, .int .i64 0] 3)) := Below.alloc HB1.out (by omega) _
        have hba := below_app hbz HOz.out (by omega) (by rw [HSZ.out]; omega) hgp
        have HBp := hide (hba.1.setCell (p := ⟨w.heap.size + 1 + 1, 0, none⟩) (by show w.heap.size ≤ w.heap.size + 1 + 1; omega) (.slice (some ⟨gp, 0, none⟩) (k + 1) cp))
        have hsp := hba.2
        rw [HSZ.out] at hsp
        have m0 : (wp.setCell ⟨w.heap.size + 1 + 1, 0, none⟩ (.slice (some ⟨gp, 0, none⟩) (k + 1) cp)).heap[w.heap.size]? = some (.cells #[.int .i64 g.gr, .int .i64 g.bk, .int .i64 g.rw, .int .i64 g.cl] 30 (0, 0)) := by
          rw [heap_set_other _ _ _ _ _ (by omega), hgp.block w.heap.size (by simp; omega) (own_far HOz.out (by omega)), alloc_lt _ _ _ (by rw [HSZ.out]; omega), alloc_lt _ _ _ (by omega)]; exact J0.out
        have m1 : (wp.setCell ⟨w.heap.size + 1 + 1, 0, none⟩ (.slice (some ⟨gp, 0, none⟩) (k + 1) cp)).heap[w.heap.size + 1]? = some (.cells #[.slice none 0 0, .slice none 0 0, .slice none 0 0] 34 (0, 0)) := by
          rw [heap_set_other _ _ _ _ _ (by omega), hgp.block (w.heap.size + 1) (by simp; omega) (own_far HOz.out (by omega)), alloc_lt _ _ _ (by rw [HSZ.out]; omega), alloc_lt _ _ _ (by omega)]; exact J1.out
        have M0 := hide m0; have M1 := hide m1
        clear m0 m1 ap hba hbz hgp hownp hatp kp kpf c0 c1 c2 HOz HFz HRow HSZ
        go_wp2_with fail
        go_roundw
        case rel => exact ⟨k + 1, _, _, gs ++ [⟨⟨some ⟨w1.heap.size, 0, none⟩, 11, 11⟩, zero11, false⟩], by omega, by go_num, hide (by rw [List.map_append, HGS.out, List.replicate_succ']; rfl), HPu, M0, M1, HBp, by simp; omega⟩
        case measure => simp [intOf]; omega
    · obtain rfl : k = lc := by omega
      have e_g0 := cell_blk J0.out 0; have e_g1 := cell_blk J0.out 1; have e_g2 := cell_blk J0.out 2; have e_g3 := cell_blk J0.out 3
      have hWM := HWM.out
      have hwl : w.heap.size < w1.heap.size := by omega
      go_wp2_with fail
      go_region_held3 (fun v => v.cell? ⟨w.heap.size, 0, none⟩ = some (.int .i64 g.gr) ∧ v.cell? ⟨w.heap.size, 1, none⟩ = some (.int .i64 g.bk) ∧ v.cell? ⟨w.heap.size, 2, none⟩ = some (.int .i64 g.rw) ∧ v.cell? ⟨w.heap.size, 3, none⟩ = some (.int .i64 g.cl)) (first | go_keep | simp [go_sem, *]) (first | (go_at_call 65; refine (spec_BankCount_is g bc HBC.out _).mono ?_; rintro ex w2 ⟨rfl, h2⟩; have h2b : Below w1.heap.size w1 w2 := below_drew h2; have q2 := fun o => (bcell h2b).1 w.heap.size o hwl))
      have s2 := h2b.size
      have HF2 := hide (HF1.out.below h2b)
      have i0 := blk_below h2b J0.out (lt_blk J0.out); have i1 := blk_below h2b J1.out (lt_blk J1.out)
      have HB2 := hide (bthen HB1.out h2b (by omega))
      have I0 := hide i0; have I1 := hide i1
      have f_g0 := cell_blk i0 0; have f_g1 := cell_blk i0 1; have f_g2 := cell_blk i0 2; have f_g3 := cell_blk i0 3
      have hm9 : ¬ (m : Int) < 0 := by omega
      clear e_g0 e_g1 e_g2 e_g3 q2 i0 i1 hWM h2 h2b HF1 J0 J1 HB1
      go_wp2_with fail
      refine (spec_GeometryOk_is g true HG.out _).mono ?_
      rintro ex w3 ⟨rfl, h3⟩
      clear f_g0 f_g1 f_g2 f_g3
      have s3 := h3.size
      have HF3 := hide (HF2.out.below h3)
      have i1 := blk_below h3 I1.out (lt_blk I1.out)
      have HB3 := hide (bthen HB2.out h3 (by omega))
      have I3 := hide i1
      clear i1 I0 I1 HF2 HB2 h3
      have hp3 := HF3.out.lt
      go_upto_region 10 with (at_make; refine wpList_make_full _ rfl _ _ 25 rfl w3.heap.size 3 i0_int (.int .i64 0) 1 Try.underlying25 hi_int hz0_int hz1_int _ _ _ _ m rfl rfl rfl rfl (by rw [hz2_int]; omega) (by unfold maxLen; omega) (Nat.le_refl _) ?_; intro w4 hown4 hg4; have hB4 : Below w3.heap.size w3 w4 := (Below.refl _ _).grown hg4 (Nat.le_refl _) (fun k h => by cases h); have s4 := hB4.size; have HP4 := hide (HF3.out.below hB4); have cp0 := cell_blk HP4.out.blk 0; have cp1 := cell_blk HP4.out.blk 1; have cp2 := cell_blk HP4.out.blk 2; have fp4 := fun o => free_blk HP4.out.blk o; have lp4 := HP4.out.lt)
      have ho4 : w4.ownsRow w3.heap.size 3 1 (.slice (some ⟨w3.heap.size, 0, none⟩) m m) m ((List.replicate m (0 : Int)).map (.int .i64)) := by
        have := hown4
        rw [Nat.mul_one, show (Value.int .i64 0).cells = #[.int .i64 0] from rfl, toList_madeCells_one] at this
        simpa using this
      have HR4 := hide (OwnI.of_own ho4 (zeros_wf m))
      have ap4 := hide (HF3.out.apart (Nat.le_refl _) (fun x hx => (HR4.out.1.lt hx).1))
      have HF5 := hide (HP4.out.putAge (r := (⟨some ⟨w3.heap.size, 0, none⟩, m, m⟩, List.replicate m 0)) (HR4.out.wide (by omega) (Nat.le_refl _)) ap4.out.1 ap4.out.2.1 ap4.out.2.2)
      have HB5 := hide ((bthen HB3.out hB4 (by omega)).setCell (p := ⟨w.heap.size + 1 + 1, 1, none⟩) (by show w.heap.size ≤ w.heap.size + 1 + 1; omega) (.slice (some ⟨w3.heap.size, 0, none⟩) m m))
      have hI5 : (w4.setCell ⟨w.heap.size + 1 + 1, 1, none⟩ (.slice (some ⟨w3.heap.size, 0, none⟩) m m)).heap[w.heap.size + 1]? = some (.cells #[.slice none 0 0, .slice none 0 0, .slice none 0 0] 34 (0, 0)) := by
        rw [heap_set_other _ _ _ _ _ (by omega)]; exact blk_below hB4 I3.out (lt_blk I3.out)
      have I5 := hide hI5
      have hs5 : (w4.setCell ⟨w.heap.size + 1 + 1, 1, none⟩ (.slice (some ⟨w3.heap.size, 0, none⟩) m m)).heap.size = w4.heap.size := by simp
      have hs5a : w4.heap.size ≤ (w4.setCell ⟨w.heap.size + 1 + 1, 1, none⟩ (.slice (some ⟨w3.heap.size, 0, none⟩) m m)).heap.size := by omega
      clear hown4 hg4 hB4 HP4 cp0 cp1 cp2 fp4 ho4 HR4 ap4 HF3 HB3 I3 hI5 hs5
      generalize (w4.setCell ⟨w.heap.size + 1 + 1, 1, none⟩ (.slice (some ⟨w3.heap.size, 0, none⟩) m m)) = w5 at *
      go_wp2_with (at_make; refine wpList_make_full _ rfl _ _ 25 rfl w5.heap.size 3 i0_int (.int .i64 0) 1 Try.underlying25 hi_int hz0_int hz1_int _ _ _ _ m rfl rfl rfl rfl (by rw [hz2_int]; omega) (by unfold maxLen; omega) (Nat.le_refl _) ?_; intro w6 hown6 hg6; have hB6 : Below w5.heap.size w5 w6 := (Below.refl _ _).grown hg6 (Nat.le_refl _) (fun k h => by cases h); have s6 := hB6.size; have HP6 := hide (HF5.out.below hB6); have cp0 := cell_blk HP6.out.blk 0; have cp1 := cell_blk HP6.out.blk 1; have cp2 := cell_blk HP6.out.blk 2; have fp6 := fun o => free_blk HP6.out.blk o; have lp6 := HP6.out.lt; have kr := blk_below hB6 I5.out (lt_blk I5.out); have r0 := cell_blk kr 0; have r1 := cell_blk kr 1; have r2 := cell_blk kr 2; have rf := fun o => free_blk kr o; have lr := lt_blk kr; clear kr)
      refine bodyPost_ret (by simp [results, Try.results88, go_sem, *]; try rfl) rfl ?_
      have ho6 : w6.ownsRow w5.heap.size 3 1 (.slice (some ⟨w5.heap.size, 0, none⟩) m m) m ((List.replicate m (0 : Int)).map (.int .i64)) := by
        have := hown6
        rw [Nat.mul_one, show (Value.int .i64 0).cells = #[.int .i64 0] from rfl, toList_madeCells_one] at this
        simpa using this
      have HR6 := hide (OwnI.of_own ho6 (zeros_wf m))
      have ap6 := hide (HF5.out.apart (Nat.le_refl _) (fun x hx => (HR6.out.1.lt hx).1))
      have HF7 := hide (HP6.out.putHits (r := (⟨some ⟨w5.heap.size, 0, none⟩, m, m⟩, List.replicate m 0)) (HR6.out.wide (by omega) (Nat.le_refl _)) ap6.out.1 ap6.out.2.1 ap6.out.2.2)
      have HB7 : Below w.heap.size w w6 := bthen HB5.out hB6 (by omega)
      refine ⟨⟨a', k, c', gs, (⟨some ⟨w3.heap.size, 0, none⟩, m, m⟩, List.replicate m 0), (⟨some ⟨w5.heap.size, 0, none⟩, m, m⟩, List.replicate m 0)⟩, rfl, HF7.out.own.ret (by omega) (by omega) (Nat.le_refl _) _ _ _, ?_, by go_grown⟩
      have h1 := newCon_ok HG.out
      rw [HNEW.out] at h1
      simp only [Ar.con, HGS.out]
      exact h1
end Go.Proofs.Ytkhcepmileiejaa
