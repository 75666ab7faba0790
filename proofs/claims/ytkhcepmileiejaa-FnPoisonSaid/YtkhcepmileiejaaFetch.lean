/- Reading one line of an array of one's own: the walks of the program's fetch and of the reference's. -/
import Derived.Test.YtkhcepmileiejaaHalf
import Derived.Test.YtkhcepmileiejaaLineW
set_option linter.unusedSimpArgs false
set_option linter.unusedVariables false
namespace Go.Proofs.Ytkhcepmileiejaa
open Go.RowKit Go.ChangeShapes Go.WideShapes Go.ChangeAt Go.Joins Go.Deep
open Go.ChangeMaps (open_string shut_string)
/-- What a read leaves: the array with one cell set right or marked; beside new memory only the outer row was written. -/
def Fetched (lo p : Nat) (A : Ar) (k : Nat) (c' : List Int × Bool) (x code : Int) (w : World) (e : Ending) (w' : World) : Prop :=
  ∃ e' : Cl, e = .returned (.tuple #[.int .i64 x, .int .i64 code]) ∧ conC e' = c' ∧ Half lo p w' { A with es := A.es.set k e' } ∧ OneW A.a w w'
theorem set_same {α : Type} {xs : List α} {k : Nat} {x : α} (h : xs[k]? = some x) : xs.set k x = xs := by
  apply List.ext_getElem?; intro i
  by_cases hk : k = i
  · subst hk; rw [List.getElem?_set_self (List.getElem?_eq_some_iff.1 h).1, h]
  · rw [List.getElem?_set_ne hk]
theorem impl_DecodeLine_is (a : Option Addr) (c : Nat) (ws cw : List Nat) (x : Nat) (code pos : Int) (w : World) (hco : corrW ws = (cw, code, pos)) (hx : decX ws = x) (hS : Sym ws) (hl : ws.length = 11) (ha : IsInts .i64 w a 11 c (ints ws)) :
    Calls Try.prog 85 #[.slice a 11 c] w fun e w' => e = .returned (.tuple #[.int .i64 (x : Nat), .int .i64 code, .int .i64 pos]) ∧ Below w.heap.size w w' := by
  have h := impl_DecodeLine a c ws w hS hl ha
  rw [hco, hx] at h; exact h
theorem spec_DecodeLine_is (a : Option Addr) (c : Nat) (ws cw : List Nat) (x : Nat) (code pos : Int) (w : World) (hco : corrW ws = (cw, code, pos)) (hx : decX ws = x) (hS : Sym ws) (hl : ws.length = 11) (ha : IsInts .i64 w a 11 c (ints ws)) :
    Calls Try.prog 83 #[.slice a 11 c] w fun e w' => e = .returned (.tuple #[.int .i64 (x : Nat), .int .i64 code, .int .i64 pos]) ∧ Below w.heap.size w w' := by
  have h := spec_DecodeLine a c ws w hS hl ha
  rw [hco, hx] at h; exact h
/-- What there is to know of a cell that is read. -/
theorem fetch_know {zs : List Int} (h : symOkB zs 11 = true) : ∃ (ws cw : List Nat) (x : Nat) (code pos : Int), ws = nats zs ∧ ints ws = zs ∧ Sym ws ∧ ws.length = 11 ∧ zs.length = 11 ∧ corrW ws = (cw, code, pos) ∧ decX ws = x ∧ Sym cw ∧ cw.length = 11 ∧
    (code = 2 ∧ x = 0 ∧ getC (zs, false) = ((zs, true), 0, 2) ∨ (code = 0 ∧ cw = ws ∨ code = 1 ∧ encS (symsOf x) = cw) ∧ x < 4294967296 ∧ getC (zs, false) = ((ints cw, false), (x : Int), code)) := by
  obtain ⟨h1, h2, h3, h4⟩ := symOk_of h
  obtain ⟨g1, g2, g3⟩ := corrW_good h2 h3
  refine ⟨_, _, _, _, _, rfl, h1, h2, h3, h4, rfl, rfl, g1, g2, ?_⟩
  rcases g3 with g3 | ⟨g3, g4⟩
  · exact .inl ⟨g3, by unfold decX; rw [if_pos g3], getC_lost rfl g3⟩
  · have hne : (corrW (nats zs)).2.1 ≠ 2 := by rcases g3 with g3 | g3; rw [g3.1]; decide; rw [g3]; decide
    have hx : decX (nats zs) = wordOf ((corrW (nats zs)).1.drop 3) := by unfold decX; rw [if_neg hne]
    refine .inr ⟨?_, ?_, ?_⟩
    · rcases g3 with g3 | g3
      · exact .inl g3
      · exact .inr ⟨g3, by rw [hx]; exact enc_back g1 g2 g4⟩
    · rw [hx]; exact wordOf_lt (g1.drop 3) (by simp [g2])
    · rw [hx]; exact getC_read rfl hne
theorem ints_wf11 {ws : List Nat} (h : Sym ws) : ∀ z ∈ ints ws, (Lit.int .i64 z).wf = true := ints_wf h
/-- The cells of one element of an array of one's own. -/
theorem half_cell {lo p k : Nat} {w : World} {A : Ar} {e : Cl} (h : Half lo p w A) (he : A.es[k]? = some e) :
    ∃ g, A.a = some ⟨g, 0, none⟩ ∧ lo ≤ g ∧ g < w.heap.size ∧ k < A.n ∧ ¬ g = p ∧ w.cell? ⟨g, k * 2, none⟩ = some (.slice e.h.a e.h.n e.h.c) ∧ w.cell? ⟨g, k * 2 + 1, none⟩ = some (.bool e.p) ∧ (∀ o, w.frozen? ⟨g, o, none⟩ = false) ∧ IsInts .i64 w e.h.a e.h.n e.h.c e.ws := by
  have hk : k < A.n := by have := (List.getElem?_eq_some_iff.1 he).1; have := h.own.len; omega
  obtain ⟨g, hga, hg1, hg2, hg3, hcell, hfr⟩ := h.own.outer.some (by omega)
  refine ⟨g, hga, hg1, hg3, hk, fun e => h.out _ _ hga rfl e, ?_, ?_, hfr, ?_⟩
  · exact (hcell (k * 2 + 0) (by omega)).trans (flat_at clF_len _ k 0 e _ he rfl)
  · exact (hcell (k * 2 + 1) (by omega)).trans (flat_at clF_len _ k 1 e _ he rfl)
  · exact (h.own.sep.rows (rowC e) (by simp only [Ar.rows, List.mem_cons, List.mem_map]; exact .inr (.inr ⟨e, List.mem_of_getElem? he, rfl⟩))).ints
set_option maxRecDepth 100000 in
set_option maxHeartbeats 4000000 in
theorem impl_fetch (lo p : Nat) (A : Ar) (k : Nat) (e : Cl) (c' : List Int × Bool) (x code : Int) (w : World) (hF : Half lo p w A) (he : A.es[k]? = some e) (hn : A.n ≤ A.c ∧ A.c ≤ 9223372036854775807) (hok : symOkB e.ws 11 = true) (hg : getC (conC e) = (c', x, code)) :
    Calls Try.prog 57 #[.pointer (some ⟨p, 0, none⟩), .int .i64 (k : Nat)] w (Fetched lo p A k c' x code w) := by
  obtain ⟨a, n, c, es, ag, ht⟩ := A
  obtain ⟨⟨ea, en, ec⟩, ews, ep⟩ := e
  obtain ⟨g, hga, hg1, hg2, hk, hgp, d0, d1, df, hR⟩ := half_cell hF he
  simp only at hga hk d0 d1 hR he hok hn
  subst hga
  have hn1 := hn.1; have hn2 := hn.2
  clear hn
  have c0 := cell_blk hF.blk 0
  simp only at c0
  have hpl := hF.lt
  have HF := hide hF; have HE := hide he; have HR := hide hR
  have i0 : (0 : Int) ≤ (k : Int) := by omega
  have i1 : (k : Int) < (n : Int) := by omega
  have hgp' : ¬ p = g := fun e => hgp e.symm
  obtain ⟨ws, cw, y, cd, pos, hws, hiw, hS, hl, hzl, hco, hdx, hSc, hlc, hcase⟩ := fetch_know hok
  obtain rfl : en = 11 := hR.1.symm.trans hzl
  subst hiw
  have HG := hide hg; have HC := hide hcase; have HS := hide hS; have HL := hide hl; have HCO := hide hco; have HDX := hide hdx; have HSC := hide hSc; have HLC := hide hlc
  clear hF he hR hok hg hcase hS hl hco hdx hSc hlc hws hzl
  cases ep
  · have hR2 : ∀ {w1 : World}, Below w.heap.size w w1 → IsInts .i64 w1 ea 11 ec (ints ws) := fun h => HR.out.below h (Nat.le_refl _)
    rcases HC.out with ⟨q1, q2, q3⟩ | ⟨⟨q1, q2⟩ | ⟨q1, q2⟩, q4, q3⟩
    · subst q1 q2
      have hq := HG.out
      rw [show conC ⟨⟨ea, 11, ec⟩, ints ws, false⟩ = (ints ws, false) from rfl, q3] at hq
      injection hq with hq1 hq; injection hq with hq2 hq3
      subst hq1 hq2 hq3
      clear q3 HC HG
      go_enter Try.func57, Try.ntmps57
      go_wp2_with fail
      refine (impl_CorrectWord_is ea ec ws cw 2 pos _ HCO.out HS.out HL.out (hR2 (Below.refl _ _))).mono ?_
      rintro ex w1 ⟨a1, c1, rfl, o1, h1⟩
      have s1 := h1.size
      have e0 := ((bcell h1).1 g (k * 2) hg2).trans d0
      have e1 := ((bcell h1).1 g (k * 2 + 1) hg2).trans d1
      have ef := fun o => ((bcell h1).2 g o hg2).trans (df o)
      go_wp2_with fail
      refine (impl_DecodeLine_is ea ec ws cw 0 2 pos _ HCO.out HDX.out HS.out HL.out (hR2 h1)).mono ?_
      rintro ex w2 ⟨rfl, h2⟩
      have s2 := h2.size
      have H2 := bthen h1 h2 s1
      have u0 := ((bcell H2).1 g (k * 2) hg2).trans d0
      have u1 := ((bcell H2).1 g (k * 2 + 1) hg2).trans d1
      have uf := fun o => ((bcell H2).2 g o hg2).trans (df o)
      have HF2 := hide (HF.out.below H2)
      clear e0 e1 ef o1
      go_wp2_with fail
      go_ret2
      exact ⟨⟨⟨ea, 11, ec⟩, ints ws, true⟩, rfl, rfl, HF2.out.flag rfl HE.out true, (OneW.below _ H2).trans (OneW.set _)⟩
    · subst q1 q2
      have hq := HG.out
      rw [show conC ⟨⟨ea, 11, ec⟩, ints cw, false⟩ = (ints cw, false) from rfl, q3] at hq
      injection hq with hq1 hq; injection hq with hq2 hq3
      subst hq1 hq2 hq3
      clear q3 HC HG
      go_enter Try.func57, Try.ntmps57
      go_wp2_with fail
      refine (impl_CorrectWord_is ea ec cw cw 0 pos _ HCO.out HS.out HL.out (hR2 (Below.refl _ _))).mono ?_
      rintro ex w1 ⟨a1, c1, rfl, o1, h1⟩
      have s1 := h1.size
      have e0 := ((bcell h1).1 g (k * 2) hg2).trans d0
      have e1 := ((bcell h1).1 g (k * 2 + 1) hg2).trans d1
      have ef := fun o => ((bcell h1).2 g o hg2).trans (df o)
      go_wp2_with fail
      refine (impl_DecodeLine_is ea ec cw cw y 0 pos _ HCO.out HDX.out HS.out HL.out (hR2 h1)).mono ?_
      rintro ex w2 ⟨rfl, h2⟩
      have H2 := bthen h1 h2 s1
      have HF2 := hide (HF.out.below H2)
      clear e0 e1 ef o1
      go_wp2_with fail
      go_ret2
      exact ⟨⟨⟨ea, 11, ec⟩, ints cw, false⟩, rfl, rfl, by rw [show ({ a := some ⟨g, 0, none⟩, n := n, c := c, es := es.set k ⟨⟨ea, 11, ec⟩, ints cw, false⟩, ag := ag, ht := ht } : Ar) = { a := some ⟨g, 0, none⟩, n := n, c := c, es := es, ag := ag, ht := ht } by rw [set_same HE.out]]; exact HF2.out, OneW.below _ H2⟩
    · subst q1
      have hq := HG.out
      rw [show conC ⟨⟨ea, 11, ec⟩, ints ws, false⟩ = (ints ws, false) from rfl, q3] at hq
      injection hq with hq1 hq; injection hq with hq2 hq3
      subst hq1 hq2 hq3
      clear q2 q3 HC HG
      go_enter Try.func57, Try.ntmps57
      go_wp2_with fail
      refine (impl_CorrectWord_is ea ec ws cw 1 pos _ HCO.out HS.out HL.out (hR2 (Below.refl _ _))).mono ?_
      rintro ex w1 ⟨a1, c1, rfl, o1, h1⟩
      have s1 := h1.size
      have e0 := ((bcell h1).1 g (k * 2) hg2).trans d0
      have e1 := ((bcell h1).1 g (k * 2 + 1) hg2).trans d1
      have ef := fun o => ((bcell h1).2 g o hg2).trans (df o)
      have HO := hide (OwnI.of_own o1 (ints_wf11 HSC.out))
      clear o1
      go_wp2_with fail
      refine (impl_DecodeLine_is ea ec ws cw y 1 pos _ HCO.out HDX.out HS.out HL.out (hR2 h1)).mono ?_
      rintro ex w2 ⟨rfl, h2⟩
      have s2 := h2.size
      have H2 := bthen h1 h2 s1
      have u0 := ((bcell H2).1 g (k * 2) hg2).trans d0
      have u1 := ((bcell H2).1 g (k * 2 + 1) hg2).trans d1
      have uf := fun o => ((bcell H2).2 g o hg2).trans (df o)
      have HF2 := hide (HF.out.below H2)
      have ap := hide (HF.out.apart (Nat.le_refl _) (fun x hx => (HO.out.1.lt hx).1))
      have HO2 := hide ((HO.out.off (OneW.below none h2) (Apart.none_left _)).wide (lo' := lo) (hi' := w2.heap.size) (by have := HF.out.own.outer.lt rfl; simp only at this; omega) s2)
      clear e0 e1 ef
      go_wp2_with fail
      go_ret2
      exact ⟨⟨⟨a1, 11, c1⟩, ints cw, false⟩, rfl, rfl, HF2.out.syms rfl HE.out (r := (⟨a1, 11, c1⟩, ints cw)) HO2.out ap.out.1 ap.out.2.1 ap.out.2.2, (OneW.below _ H2).trans (OneW.set _)⟩
  · have hq := HG.out
    rw [getC_poison rfl] at hq
    injection hq with hq1 hq; injection hq with hq2 hq3
    subst hq1 hq2 hq3
    clear HC HG
    go_enter Try.func57, Try.ntmps57
    go_wp2_with fail
    go_ret2
    exact ⟨⟨⟨ea, 11, ec⟩, ints ws, true⟩, rfl, rfl, by rw [show ({ a := some ⟨g, 0, none⟩, n := n, c := c, es := es.set k ⟨⟨ea, 11, ec⟩, ints ws, true⟩, ag := ag, ht := ht } : Ar) = { a := some ⟨g, 0, none⟩, n := n, c := c, es := es, ag := ag, ht := ht } by rw [set_same HE.out]]; exact HF.out, Save.refl _ _ _⟩
set_option maxRecDepth 100000 in
set_option maxHeartbeats 4000000 in
theorem spec_l25Get (lo p : Nat) (A : Ar) (k : Nat) (e : Cl) (c' : List Int × Bool) (x code : Int) (w : World) (hF : Half lo p w A) (he : A.es[k]? = some e) (hn : A.n ≤ A.c ∧ A.c ≤ 9223372036854775807) (hok : symOkB e.ws 11 = true) (hg : getC (conC e) = (c', x, code)) :
    Calls Try.prog 55 #[.pointer (some ⟨p, 0, none⟩), .int .i64 (k : Nat)] w (Fetched lo p A k c' x code w) := by
  obtain ⟨a, n, c, es, ag, ht⟩ := A
  obtain ⟨⟨ea, en, ec⟩, ews, ep⟩ := e
  obtain ⟨g, hga, hg1, hg2, hk, hgp, d0, d1, df, hR⟩ := half_cell hF he
  simp only at hga hk d0 d1 hR he hok hn
  subst hga
  have hn1 := hn.1; have hn2 := hn.2
  clear hn
  have c0 := cell_blk hF.blk 0
  simp only at c0
  have hpl := hF.lt
  have HF := hide hF; have HE := hide he; have HR := hide hR
  have i0 : (0 : Int) ≤ (k : Int) := by omega
  have i1 : (k : Int) < (n : Int) := by omega
  have hgp' : ¬ p = g := fun e => hgp e.symm
  obtain ⟨ws, cw, y, cd, pos, hws, hiw, hS, hl, hzl, hco, hdx, hSc, hlc, hcase⟩ := fetch_know hok
  obtain rfl : en = 11 := hR.1.symm.trans hzl
  subst hiw
  have HG := hide hg; have HC := hide hcase; have HS := hide hS; have HL := hide hl; have HCO := hide hco; have HDX := hide hdx; have HSC := hide hSc; have HLC := hide hlc
  clear hF he hR hok hg hcase hS hl hco hdx hSc hlc hws hzl
  have hBx : Below w.heap.size w (w.alloc (.cells #[.slice ea 11 ec, .bool ep] 70)) := Below.alloc (Below.refl _ _) (Nat.le_refl _) _
  have hsx : (w.alloc (.cells #[.slice ea 11 ec, .bool ep] 70)).heap.size = w.heap.size + 1 := by simp
  have HFX := hide (HF.out.below hBx)
  cases ep
  · have hR2 : ∀ {w1 : World}, Below w.heap.size w w1 → IsInts .i64 w1 ea 11 ec (ints ws) := fun h => HR.out.below h (Nat.le_refl _)
    rcases HC.out with ⟨q1, q2, q3⟩ | ⟨⟨q1, q2⟩ | ⟨q1, q2⟩, q4, q3⟩
    · subst q1 q2
      have hq := HG.out
      rw [show conC ⟨⟨ea, 11, ec⟩, ints ws, false⟩ = (ints ws, false) from rfl, q3] at hq
      injection hq with hq1 hq; injection hq with hq2 hq3
      subst hq1 hq2 hq3
      clear q3 HC HG
      go_enter Try.func55, Try.ntmps55
      go_wp2_with fail
      refine (spec_DecodeLine_is ea ec ws cw 0 2 pos _ HCO.out HDX.out HS.out HL.out (hR2 hBx)).mono ?_
      rintro ex w2 ⟨rfl, h2⟩
      have H2 := bthen hBx h2 (by omega)
      have s2 := H2.size
      have u0 := ((bcell H2).1 g (k * 2) hg2).trans d0
      have u1 := ((bcell H2).1 g (k * 2 + 1) hg2).trans d1
      have uf := fun o => ((bcell H2).2 g o hg2).trans (df o)
      have p0 := ((bcell H2).1 p 0 hpl).trans c0
      have HF2 := hide (HFX.out.below h2)
      go_wp2_with fail
      go_ret2
      exact ⟨⟨⟨ea, 11, ec⟩, ints ws, true⟩, rfl, rfl, HF2.out.flag rfl HE.out true, (OneW.below _ H2).trans (OneW.set _)⟩
    · subst q1 q2
      have hq := HG.out
      rw [show conC ⟨⟨ea, 11, ec⟩, ints cw, false⟩ = (ints cw, false) from rfl, q3] at hq
      injection hq with hq1 hq; injection hq with hq2 hq3
      subst hq1 hq2 hq3
      clear q3 HC HG
      go_enter Try.func55, Try.ntmps55
      go_wp2_with fail
      refine (spec_DecodeLine_is ea ec cw cw y 0 pos _ HCO.out HDX.out HS.out HL.out (hR2 hBx)).mono ?_
      rintro ex w2 ⟨rfl, h2⟩
      have H2 := bthen hBx h2 (by omega)
      have HF2 := hide (HFX.out.below h2)
      go_wp2_with fail
      go_ret2
      exact ⟨⟨⟨ea, 11, ec⟩, ints cw, false⟩, rfl, rfl, by rw [show ({ a := some ⟨g, 0, none⟩, n := n, c := c, es := es.set k ⟨⟨ea, 11, ec⟩, ints cw, false⟩, ag := ag, ht := ht } : Ar) = { a := some ⟨g, 0, none⟩, n := n, c := c, es := es, ag := ag, ht := ht } by rw [set_same HE.out]]; exact HF2.out, OneW.below _ H2⟩
    · subst q1
      have hq := HG.out
      rw [show conC ⟨⟨ea, 11, ec⟩, ints ws, false⟩ = (ints ws, false) from rfl, q3] at hq
      injection hq with hq1 hq; injection hq with hq2 hq3
      subst hq1 hq2 hq3
      have HQ2 := hide q2
      clear q2 q3 HC HG
      go_enter Try.func55, Try.ntmps55
      go_wp2_with fail
      refine (spec_DecodeLine_is ea ec ws cw y 1 pos _ HCO.out HDX.out HS.out HL.out (hR2 hBx)).mono ?_
      rintro ex w2 ⟨rfl, h2⟩
      have H2 := bthen hBx h2 (by omega)
      have s2 := H2.size
      have u0 := ((bcell H2).1 g (k * 2) hg2).trans d0
      have u1 := ((bcell H2).1 g (k * 2 + 1) hg2).trans d1
      have uf := fun o => ((bcell H2).2 g o hg2).trans (df o)
      have p0 := ((bcell H2).1 p 0 hpl).trans c0
      have HF2 := hide (HFX.out.below h2)
      go_wp2_with fail
      go_region_law ((go_simp; go_at_call 49; refine (spec_EncodeLine y _ q4).mono ?_; rintro ex z1 ⟨az, cz, rfl, hoz, hgz⟩; have hgy := below_drew hgz; have HFz := hide (HF2.out.below hgy); have hz2 : Below w2.heap.size w2 z1 := hgy; have x0 := ((bcell hz2).1 g (k * 2) (by omega)).trans u0; have x1 := ((bcell hz2).1 g (k * 2 + 1) (by omega)).trans u1; have xf := fun o => ((bcell hz2).2 g o (by omega)).trans (uf o); have xp := ((bcell hz2).1 p 0 (by omega)).trans p0))
      all_goals
        rw [HQ2.out] at hoz
        have HO := hide (OwnI.of_own hoz (ints_wf11 HSC.out))
        have ap := hide (HF2.out.apart (Nat.le_refl _) (fun x hx => (HO.out.1.lt hx).1))
        have HO2 := hide (HO.out.wide (lo' := lo) (hi' := z1.heap.size) (by have := HF.out.own.outer.lt rfl; simp only at this; show lo ≤ w2.heap.size; omega) (Nat.le_refl _))
        have HZ := hide (bthen H2 hz2 (by omega))
        clear hoz hgz hgy hz2
        go_wp2_with fail
        go_ret2
        exact ⟨⟨⟨az, 11, cz⟩, ints cw, false⟩, rfl, rfl, HFz.out.syms rfl HE.out (r := (⟨az, 11, cz⟩, ints cw)) HO2.out ap.out.1 ap.out.2.1 ap.out.2.2, (OneW.below _ HZ.out).trans (OneW.set _)⟩
  · have hq := HG.out
    rw [getC_poison rfl] at hq
    injection hq with hq1 hq; injection hq with hq2 hq3
    subst hq1 hq2 hq3
    clear HC HG
    go_enter Try.func55, Try.ntmps55
    go_wp2_with fail
    go_ret2
    exact ⟨⟨⟨ea, 11, ec⟩, ints ws, true⟩, rfl, rfl, by rw [show ({ a := some ⟨g, 0, none⟩, n := n, c := c, es := es.set k ⟨⟨ea, 11, ec⟩, ints ws, true⟩, ag := ag, ht := ht } : Ar) = { a := some ⟨g, 0, none⟩, n := n, c := c, es := es, ag := ag, ht := ht } by rw [set_same HE.out]]; exact HFX.out, OneW.below _ hBx⟩
end Go.Proofs.Ytkhcepmileiejaa
