/- A drawn array: valid, of a small geometry. -/
import Derived.Test.YtkhcepmileiejaaBent
import Derived.Test.YtkhcepmileiejaaSense2
import Derived.Test.YtkhcepmileiejaaPuts
set_option linter.unusedSimpArgs false
set_option linter.unusedVariables false
namespace Go.Proofs.Ytkhcepmileiejaa
open Go.RowKit Go.ChangeShapes Go.WideShapes Go.ChangeAt Go.Joins Go.Deep
open Go.ChangeMaps (open_string shut_string)
theorem Half.off {lo p b : Nat} {w w' : World} {A : Ar} (h : Half lo p w A) (hg : w.grownBy w' (some b)) (hb : b < lo) (hp : ¬ b = p) : Half lo p w' A := by
  have ho : OneW (some ⟨b, 0, none⟩) w w' := OneW.grown hg
  have hA : Apart (some (⟨b, 0, none⟩ : Addr)) A.a := fun x y hx hy e => by injection hx with hx; subst hx; have := h.own.outer.lt hy; simp only at e; omega
  have hR : ∀ r ∈ A.rows, Apart (some (⟨b, 0, none⟩ : Addr)) r.1.a := fun r hr x y hx hy e => by injection hx with hx; subst hx; have := (h.own.sep.rows r hr).1.lt hy; simp only at e; omega
  exact ⟨(h.own.far ho hA hR).wide (Nat.le_refl _) hg.size, (hg.block p h.lt (by intro e; injection e with e; exact hp e.symm)).trans h.blk, h.rows, h.out⟩
theorem own_typeG {lo hi q n c b sz : Nat} {V : World} {xs : List Value} {cs : Array Value} {T' E : TypeId} {fr : Nat × Nat} (h : Owned lo hi V E sz (some ⟨q, 0, none⟩) n c xs) (hk : V.heap[b]? = some (.cells cs T' fr)) (hne : T' ≠ E) : ¬ q = b := by
  rcases h.1.2 with ⟨h0, _⟩ | ⟨g, cap, cur, h1, h2, h3, h4⟩
  · injection h0 with e; cases e
  · injection h1 with e; injection e with e; injection e with e
    intro hqb
    rw [← e, hqb, hk] at h3
    injection h3 with h3; injection h3 with _ h5
    exact hne h5
structure Cse (w0 : World) (a : Option Addr) (n c b : Nat) (w : World) (g : Ge) (l1 l2 : Int) (lo p G L : Nat) (V : World) (A : Ar) : Prop where
  half : Half lo p V A
  ok : arOk g A.con = true
  cur : Cur w0 a n c b V
  grow : w.grownBy V (some b)
  r0 : V.heap[w.heap.size]? = some (.cells #[.int .i64 0, .int .i64 0, .int .i64 0, .int .i64 0] 30 (0, 0))
  r1 : V.heap[w.heap.size + 1]? = some (.cells #[.int .i64 0, .int .i64 0] 57 (0, 0))
  r2 : V.heap[w.heap.size + 1 + 1]? = some (.cells #[.slice none 0 0, .slice none 0 0, .slice none 0 0] 34 (0, 0))
  kg : V.heap[G]? = some (.cells #[.int .i64 g.gr, .int .i64 g.bk, .int .i64 g.rw, .int .i64 g.cl] 30 (0, 0))
  kl : V.heap[L]? = some (.cells #[.int .i64 l1, .int .i64 l2] 57 (0, 0))
  bw : b < w.heap.size
  lw : w.heap.size + 1 + 1 < lo
  lG : G < lo ∧ w.heap.size + 1 + 1 < G
  lL : L < lo ∧ w.heap.size + 1 + 1 < L
  lp : lo ≤ p
  ll : lo ≤ V.heap.size
section
variable {w0 : World} {a : Option Addr} {n c b : Nat} {w : World} {g : Ge} {l1 l2 : Int} {lo p G L : Nat} {V V' : World} {A A' : Ar}
theorem blk_grow {x : Obj} {k : Nat} (hg : V.grownBy V' (some b)) (h : V.heap[k]? = some x) (hk : ¬ k = b) : V'.heap[k]? = some x := (hg.block k (lt_blk h) (by intro e; injection e with e; exact hk e)).trans h
theorem Cse.draw (h : Cse w0 a n c b w g l1 l2 lo p G L V A) (hC : Cur w0 a n c b V') (hg : V.grownBy V' (some b)) : Cse w0 a n c b w g l1 l2 lo p G L V' A := by
  obtain ⟨h1, h2, h3, h4, h5, h6, h7, h8, h9, b1, b2, b3, b4, b5, b6⟩ := h
  exact ⟨h1.off hg (by omega) (by omega), h2, hC, only_trans h4 hg, blk_grow hg h5 (by omega), blk_grow hg h6 (by omega), blk_grow hg h7 (by omega), blk_grow hg h8 (by omega), blk_grow hg h9 (by omega), b1, b2, b3, b4, b5, Nat.le_trans b6 hg.size⟩
theorem Cse.turn (h : Cse w0 a n c b w g l1 l2 lo p G L V A) (hH : Half lo p V' A') (hok : arOk g A'.con = true) (hB : Below lo V V') : Cse w0 a n c b w g l1 l2 lo p G L V' A' := by
  obtain ⟨h1, h2, h3, h4, h5, h6, h7, h8, h9, b1, b2, b3, b4, b5, b6⟩ := h
  have hl : b < V.heap.size := h3.lt
  refine ⟨hH, hok, ?_, ?_, blk_below hB h5 (by omega), blk_below hB h6 (by omega), blk_below hB h7 (by omega), blk_below hB h8 (by omega), blk_below hB h9 (by omega), b1, b2, b3, b4, b5, Nat.le_trans b6 hB.size⟩
  · obtain ⟨i, x, k1, k2, k3, k4⟩ := h3
    exact ⟨i, x, blk_below hB k1 (by omega), k2, bthen k3 hB (by omega), k4⟩
  · exact ⟨hB.os.trans h4.os, hB.tape.trans h4.tape, hB.output.trans h4.output, Nat.le_trans h4.size hB.size, fun k hk hn => (hB.block k (by omega)).trans (h4.block k hk hn)⟩
theorem Cse.next (h : Cse w0 a n c b w g l1 l2 lo p G L V A) (hB : Below V.heap.size V V') : Cse w0 a n c b w g l1 l2 lo p G L V' A :=
  h.turn (h.half.below hB) h.ok (hB.mono h.ll)
end
/-- A valid array of the call's own, of a valid geometry, and limits. -/
def DrewCase (w0 : World) (a : Option Addr) (n c b : Nat) (w : World) (e : Ending) (w' : World) : Prop :=
  ∃ (g : Ge) (l1 l2 : Int) (A : Ar), geoOk g = true ∧ e = .returned (.tuple #[.agg #[.int .i64 g.gr, .int .i64 g.bk, .int .i64 g.rw, .int .i64 g.cl], .agg #[.int .i64 l1, .int .i64 l2], .agg #[.slice A.a A.n A.c, .slice A.ag.1.a A.ag.1.n A.ag.1.c, .slice A.ht.1.a A.ht.1.n A.ht.1.c]]) ∧ OwnAr w.heap.size w'.heap.size w' A ∧ arOk g A.con = true ∧ Cur w0 a n c b w' ∧ w.grownBy w' (some b)
set_option maxRecDepth 100000 in
set_option maxHeartbeats 8000000 in
theorem spec_l14Case (w0 : World) (a : Option Addr) (n c b : Nat) (bs : List Int) (w : World) (ha : IsInts .u8 w0 a n c bs) (hs : n ≤ 1048576) (hC0 : Cur w0 a n c b w) :
    Calls Try.prog 61 #[.pointer (some ⟨b, 0, none⟩)] w (DrewCase w0 a n c b w) := by
  have HA := hide ha
  clear ha
  have hlb := hC0.lt
  have hwb : w0.heap.size ≤ b := by obtain ⟨_, _, _, _, _, h⟩ := hC0; exact h
  have m0 : (((w.alloc (.cells #[.int .i64 0, .int .i64 0, .int .i64 0, .int .i64 0] 30)).alloc (.cells #[.int .i64 0, .int .i64 0] 57)).alloc (.cells #[.slice none 0 0, .slice none 0 0, .slice none 0 0] 34)).heap[w.heap.size]? = some (.cells #[.int .i64 0, .int .i64 0, .int .i64 0, .int .i64 0] 30 (0, 0)) := by rw [alloc_lt _ _ _ (by simp; try omega), alloc_lt _ _ _ (by simp; try omega)]; exact alloc_at _ _ _ (by simp)
  have m1 : (((w.alloc (.cells #[.int .i64 0, .int .i64 0, .int .i64 0, .int .i64 0] 30)).alloc (.cells #[.int .i64 0, .int .i64 0] 57)).alloc (.cells #[.slice none 0 0, .slice none 0 0, .slice none 0 0] 34)).heap[w.heap.size + 1]? = some (.cells #[.int .i64 0, .int .i64 0] 57 (0, 0)) := by rw [alloc_lt _ _ _ (by simp; try omega)]; exact alloc_at _ _ _ (by simp)
  have m2 : (((w.alloc (.cells #[.int .i64 0, .int .i64 0, .int .i64 0, .int .i64 0] 30)).alloc (.cells #[.int .i64 0, .int .i64 0] 57)).alloc (.cells #[.slice none 0 0, .slice none 0 0, .slice none 0 0] 34)).heap[w.heap.size + 1 + 1]? = some (.cells #[.slice none 0 0, .slice none 0 0, .slice none 0 0] 34 (0, 0)) := alloc_at _ _ _ (by simp)
  have hCW := hide (((hC0.alloc (.cells #[.int .i64 0, .int .i64 0, .int .i64 0, .int .i64 0] 30)).alloc (.cells #[.int .i64 0, .int .i64 0] 57)).alloc (.cells #[.slice none 0 0, .slice none 0 0, .slice none 0 0] 34))
  have hGW : w.grownBy (((w.alloc (.cells #[.int .i64 0, .int .i64 0, .int .i64 0, .int .i64 0] 30)).alloc (.cells #[.int .i64 0, .int .i64 0] 57)).alloc (.cells #[.slice none 0 0, .slice none 0 0, .slice none 0 0] 34)) (some b) := only_alloc (only_alloc (only_alloc (only_refl w (some b)) _) _) _
  have hsW : w.heap.size + 3 ≤ (((w.alloc (.cells #[.int .i64 0, .int .i64 0, .int .i64 0, .int .i64 0] 30)).alloc (.cells #[.int .i64 0, .int .i64 0] 57)).alloc (.cells #[.slice none 0 0, .slice none 0 0, .slice none 0 0] 34)).heap.size := by simp
  go_enter Try.func61, Try.ntmps61
  go_wp2_with fail
  generalize (((w.alloc (.cells #[.int .i64 0, .int .i64 0, .int .i64 0, .int .i64 0] 30)).alloc (.cells #[.int .i64 0, .int .i64 0] 57)).alloc (.cells #[.slice none 0 0, .slice none 0 0, .slice none 0 0] 34)) = W at *
  refine (spec_l14Small w0 a n c b bs _ HA.out hs hCW.out).mono ?_
  rintro ex v1 ⟨g, hgo, rfl, hC1, hg1⟩
  have s1 := hg1.size
  replace m0 := blk_grow hg1 m0 (by omega); replace m1 := blk_grow hg1 m1 (by omega); replace m2 := blk_grow hg1 m2 (by omega)
  have hG1 := only_trans hGW hg1
  clear hCW hGW hg1 hC0
  have hCg := hC1.alloc (.cells #[.int .i64 g.gr, .int .i64 g.bk, .int .i64 g.rw, .int .i64 g.cl] 30)
  have hGg := only_alloc hG1 (.cells #[.int .i64 g.gr, .int .i64 g.bk, .int .i64 g.rw, .int .i64 g.cl] 30)
  have hsg : (v1.alloc (.cells #[.int .i64 g.gr, .int .i64 g.bk, .int .i64 g.rw, .int .i64 g.cl] 30)).heap.size = v1.heap.size + 1 := by simp
  have hsg1 : v1.heap.size + 1 ≤ (v1.alloc (.cells #[.int .i64 g.gr, .int .i64 g.bk, .int .i64 g.rw, .int .i64 g.cl] 30)).heap.size := by omega
  have kg : (v1.alloc (.cells #[.int .i64 g.gr, .int .i64 g.bk, .int .i64 g.rw, .int .i64 g.cl] 30)).heap[v1.heap.size]? = some (.cells #[.int .i64 g.gr, .int .i64 g.bk, .int .i64 g.rw, .int .i64 g.cl] 30 (0, 0)) := alloc_at _ _ _ rfl
  replace m0 := (alloc_lt v1 (.cells #[.int .i64 g.gr, .int .i64 g.bk, .int .i64 g.rw, .int .i64 g.cl] 30) _ (lt_blk m0)).trans m0; replace m1 := (alloc_lt v1 (.cells #[.int .i64 g.gr, .int .i64 g.bk, .int .i64 g.rw, .int .i64 g.cl] 30) _ (lt_blk m1)).trans m1; replace m2 := (alloc_lt v1 (.cells #[.int .i64 g.gr, .int .i64 g.bk, .int .i64 g.rw, .int .i64 g.cl] 30) _ (lt_blk m2)).trans m2
  have HK := hide (And.intro m0 (And.intro m1 (And.intro m2 kg)))
  have HGO := hide hgo
  clear m0 m1 m2 kg hC1 hG1 hsg hgo
  go_wp2_with fail
  generalize (v1.alloc (.cells #[.int .i64 g.gr, .int .i64 g.bk, .int .i64 g.rw, .int .i64 g.cl] 30)) = W1 at *
  refine (spec_l14Limits w0 a n c b bs _ HA.out hs hCg).mono ?_
  rintro ex v2 ⟨l1, l2, _, _, _, _, rfl, hC2, hg2⟩
  have s2 := hg2.size
  have hG2 := only_trans hGg hg2
  obtain ⟨m0, m1, m2, kg⟩ := HK.out
  replace m0 := blk_grow hg2 m0 (by omega); replace m1 := blk_grow hg2 m1 (by omega); replace m2 := blk_grow hg2 m2 (by omega); replace kg := blk_grow hg2 kg (by omega)
  have hCl := hC2.alloc (.cells #[.int .i64 l1, .int .i64 l2] 57)
  have hGl := only_alloc hG2 (.cells #[.int .i64 l1, .int .i64 l2] 57)
  have kl : (v2.alloc (.cells #[.int .i64 l1, .int .i64 l2] 57)).heap[v2.heap.size]? = some (.cells #[.int .i64 l1, .int .i64 l2] 57 (0, 0)) := alloc_at _ _ _ rfl
  have hsl : (v2.alloc (.cells #[.int .i64 l1, .int .i64 l2] 57)).heap.size = v2.heap.size + 1 := by simp
  have hsl1 : v2.heap.size + 1 ≤ (v2.alloc (.cells #[.int .i64 l1, .int .i64 l2] 57)).heap.size := by omega
  have hsl2 : (v2.alloc (.cells #[.int .i64 l1, .int .i64 l2] 57)).heap.size ≤ v2.heap.size + 1 := by omega
  have hmv : ∀ {k : Nat} {o : Obj}, v2.heap[k]? = some o → (v2.alloc (.cells #[.int .i64 l1, .int .i64 l2] 57)).heap[k]? = some o := fun h => (alloc_lt _ _ _ (lt_blk h)).trans h
  replace m0 := hmv m0; replace m1 := hmv m1; replace m2 := hmv m2; replace kg := hmv kg
  have e_g0 := cell_blk kg 0; have e_g1 := cell_blk kg 1; have e_g2 := cell_blk kg 2; have e_g3 := cell_blk kg 3
  have HK2 := hide (And.intro m0 (And.intro m1 (And.intro m2 (And.intro kg kl))))
  clear m0 m1 m2 kg kl hmv HK hC2 hg2 hG2 hCg hGg hsl
  go_upto_region 3 with fail
  generalize (v2.alloc (.cells #[.int .i64 l1, .int .i64 l2] 57)) = W2 at *
  go_wp2_with fail
  refine (spec_ArrayNew g _ HGO.out).mono ?_
  rintro ex v3 ⟨P, rfl, oP, okP, hB3⟩
  have s3 := hB3.size
  obtain ⟨m0, m1, m2, kg, kl⟩ := HK2.out
  have hH := Half.of (p := v3.heap.size) (w := v3.alloc (.cells #[.slice P.a P.n P.c, .slice P.ag.1.a P.ag.1.n P.ag.1.c, .slice P.ht.1.a P.ht.1.n P.ht.1.c] 34)) (oP.below (Below.alloc (Below.refl _ _) (Nat.le_refl _) _) (Nat.le_refl _)) (by simp) (alloc_at _ _ _ rfl) (.inr (Nat.le_refl _))
  have hBa : Below W2.heap.size W2 (v3.alloc (.cells #[.slice P.a P.n P.c, .slice P.ag.1.a P.ag.1.n P.ag.1.c, .slice P.ht.1.a P.ht.1.n P.ht.1.c] 34)) := Below.alloc hB3 hB3.size _
  have hCse : Cse w0 a n c b w g l1 l2 W2.heap.size v3.heap.size v1.heap.size v2.heap.size (v3.alloc (.cells #[.slice P.a P.n P.c, .slice P.ag.1.a P.ag.1.n P.ag.1.c, .slice P.ht.1.a P.ht.1.n P.ht.1.c] 34)) P :=
    ⟨hH, okP, hCl.below hBa, only_trans hGl (only_of_below hBa _), blk_below hBa m0 (lt_blk m0), blk_below hBa m1 (lt_blk m1), blk_below hBa m2 (lt_blk m2), blk_below hBa kg (lt_blk kg), blk_below hBa kl (lt_blk kl), hlb, by omega, ⟨by omega, by omega⟩, ⟨by omega, by omega⟩, hB3.size, hBa.size⟩
  have HCS := hide hCse
  clear e_g0 e_g1 e_g2 e_g3 m0 m1 m2 kg kl hH hBa hCse oP okP hB3 HK2 hCl hGl
  go_upto_region 4 with fail
  generalize (v3.alloc (.cells #[.slice P.a P.n P.c, .slice P.ag.1.a P.ag.1.n P.ag.1.c, .slice P.ht.1.a P.ht.1.n P.ht.1.c] 34)) = W3 at *
  generalize v3.heap.size = p at *
  generalize v1.heap.size = G at *
  generalize v2.heap.size = L at *
  generalize W2.heap.size = lo at *
  clear s1 s2 s3 hsg1 hsl1 hsl2 hsW
  go_wp2_with fail
  go_loopw [8] (fun vi wr => ∃ (i : Nat) (A : Ar), vi = .int .i64 i ∧ i ≤ 19 ∧ Hid (Cse w0 a n c b w g l1 l2 lo p G L wr A)) (fun vi _ => 19 - (intOf vi).toNat)
  case atStart => exact ⟨0, P, rfl, by omega, HCS⟩
  case round =>
    clear HCS
    obtain ⟨i, A, rfl, hi, HS⟩ := hrel
    go_wp2_with fail
    refine (spec_l01Below w0 a n c b bs _ 20 HA.out hs (by omega) HS.out.cur).mono ?_
    rintro ex y1 ⟨xx, hx0, hx1, rfl, hCy, hgy⟩
    have HS1 := hide (HS.out.draw hCy hgy)
    clear hCy hgy HS
    by_cases hlt : (i : Int) < xx
    · have e_g0 := cell_blk HS1.out.kg 0; have e_g1 := cell_blk HS1.out.kg 1; have e_g2 := cell_blk HS1.out.kg 2; have e_g3 := cell_blk HS1.out.kg 3
      go_wp2_with fail
      refine (spec_l03Addr w0 a n c b bs g _ HGO.out HA.out hs HS1.out.cur).mono ?_
      rintro ex y2 ⟨x, hxa, rfl, hCy, hgy⟩
      have hS2 := (HS1.out.draw hCy hgy).next (V' := y2.alloc (.cells #[.int .i64 x.b, .int .i64 x.r, .int .i64 x.c] 44)) (Below.alloc (Below.refl _ _) (Nat.le_refl _) _)
      have kx : (y2.alloc (.cells #[.int .i64 x.b, .int .i64 x.r, .int .i64 x.c] 44)).heap[y2.heap.size]? = some (.cells #[.int .i64 x.b, .int .i64 x.r, .int .i64 x.c] 44 (0, 0)) := alloc_at _ _ _ rfl
      have HS2 := hide hS2
      have hp2 := (HS1.out.draw hCy hgy).half.lt
      have HXA := hide hxa
      clear hS2 hCy hgy HS1 e_g0 e_g1 e_g2 e_g3 hxa
      go_upto_region 8 with fail
      have hbx : ¬ y2.heap.size = b := by have := HS2.out.lp; have := HS2.out.bw; have := HS2.out.lw; omega
      generalize (y2.alloc (.cells #[.int .i64 x.b, .int .i64 x.r, .int .i64 x.c] 44)) = Y2 at *
      generalize y2.heap.size = xb at *
      go_wp2_with fail
      refine (spec_l01Below w0 a n c b bs _ 4 HA.out hs (by omega) HS2.out.cur).mono ?_
      rintro ex y3 ⟨yy, hy0, hy1, rfl, hCy, hgy⟩
      have HS3 := hide (HS2.out.draw hCy hgy)
      replace kx := blk_grow hgy kx hbx
      have HKX := hide kx
      clear hCy hgy HS2 kx
      by_cases q0 : yy = 0
      · subst q0
        go_wp2_with fail
        refine (spec_l01Below w0 a n c b bs _ 30 HA.out hs (by omega) HS3.out.cur).mono ?_
        rintro ex y4 ⟨tt, ht0, ht1, rfl, hCy, hgy⟩
        have HS4 := hide (HS3.out.draw hCy hgy)
        clear hCy hgy HS3
        go_wp2_with fail
        refine (spec_l14Time lo p g A tt _ ⟨ht0, by omega⟩ HS4.out.half HS4.out.ok HS4.out.ll).mono ?_
        rintro ex y5 ⟨rfl, A', hH', hok', hB'⟩
        have HS5 := hide (HS4.out.turn hH' hok' hB')
        clear hH' hok' hB' HS4
        go_wp2_with fail
        go_roundw
        case rel => exact ⟨i + 1, A', by go_num, by omega, HS5⟩
        case measure => simp [intOf]; omega
      · by_cases q1 : yy = 1
        · subst q1
          have kx := HKX.out
          have e_g0 := cell_blk HS3.out.kg 0; have e_g1 := cell_blk HS3.out.kg 1; have e_g2 := cell_blk HS3.out.kg 2; have e_g3 := cell_blk HS3.out.kg 3
          have e_x0 := cell_blk kx 0; have e_x1 := cell_blk kx 1; have e_x2 := cell_blk kx 2
          obtain ⟨k, hk⟩ : ∃ k : Nat, adIdx g x = (k : Int) := ⟨(adIdx g x).toNat, by have := adIdx_bd HXA.out; omega⟩
          have hkl : k < A.con.cs.length := by have := adIdx_bd HXA.out; have := (arOk_of HS3.out.ok).2.1; omega
          have HK := hide hk
          obtain ⟨f, hf, _⟩ := con_at (C := A.con) rfl hkl
          obtain ⟨gg, hga, hg1, hg2, hkn, hgp, d0, d1, df, _⟩ := half_cell HS3.out.half hf
          have c0 := cell_blk HS3.out.half.blk 0
          rw [hga] at c0
          have HGA := hide hga; have HFE := hide hf
          have i0 : (0 : Int) ≤ (k : Int) := by omega
          have i1 : (k : Int) < (A.n : Int) := by omega
          have z1 := lt_blk HS3.out.kg; have z2 := lt_blk kx; have z3 := HS3.out.half.lt
          have hgb : ¬ gg = b := by have := HS3.out.bw; have := HS3.out.lw; omega
          have hGb : ¬ G = b := by have := HS3.out.bw; have := HS3.out.lG; omega
          have hpb : ¬ p = b := by have := HS3.out.bw; have := HS3.out.lw; have := HS3.out.lp; omega
          have u1 : ¬ gg = G := by have := HS3.out.lG; omega
          have u2 : ¬ G = gg := fun e => u1 e.symm
          have u3 : ¬ p = gg := fun e => hgp e.symm
          have u4 : ¬ gg = xb := by have h := HS3.out.half.own.outer; rw [hga] at h; exact own_typeG h kx (by decide)
          have u5 : ¬ xb = gg := fun e => u4 e.symm
          clear hk hkl hf hga
          go_wp2_with fail
          go_region_held3 (fun v => v.cell? ⟨p, 0, none⟩ = some (.slice (some ⟨gg, 0, none⟩) A.n A.c) ∧ v.cell? ⟨G, 0, none⟩ = some (.int .i64 g.gr) ∧ v.cell? ⟨G, 1, none⟩ = some (.int .i64 g.bk) ∧ v.cell? ⟨G, 2, none⟩ = some (.int .i64 g.rw) ∧ v.cell? ⟨G, 3, none⟩ = some (.int .i64 g.cl) ∧ v.cell? ⟨xb, 0, none⟩ = some (.int .i64 x.b) ∧ v.cell? ⟨xb, 1, none⟩ = some (.int .i64 x.r) ∧ v.cell? ⟨xb, 2, none⟩ = some (.int .i64 x.c)) (first | go_keep | simp [go_sem, *]) (first
            | (go_at_call 38; refine (spec_AddrIndex g x (k : Nat) _ HXA.out HK.out).mono ?_; rintro ex t1 ⟨rfl, ht1⟩; have hT1 : Below y3.heap.size y3 t1 := below_drew ht1; have s_a := hT1.size; have p_a := ((bcell hT1).1 p 0 z3).trans c0; have a_a := ((bcell hT1).1 gg (k * 2) hg2).trans d0; have b_a := ((bcell hT1).1 gg (k * 2 + 1) hg2).trans d1; have f_a := fun o => ((bcell hT1).2 gg o hg2).trans (df o); have g_a := fun o => (bcell hT1).1 G o z1; have x_a := fun o => (bcell hT1).1 xb o z2)
            | (go_at_call 91; refine (spec_l12Bent w0 a n c b bs _ HA.out hs (HS3.out.next hT1).cur).mono ?_; rintro ex t2 ⟨aw, cw, ws, rfl, ow, lw, sw, hC2, hg2⟩; have s_b := hg2.size; have p_b := (only_cell hg2 (b := p) (o := 0) (by omega) hpb).trans p_a; have a_b := (only_cell hg2 (b := gg) (o := k * 2) (by omega) hgb).trans a_a; have b_b := (only_cell hg2 (b := gg) (o := k * 2 + 1) (by omega) hgb).trans b_a; have f_b := fun o => (only_free hg2 (b := gg) (o := o) (by omega) hgb).trans (f_a o); have g_b := fun o => only_cell hg2 (b := G) (o := o) (by omega) hGb; have x_b := fun o => only_cell hg2 (b := xb) (o := o) (by omega) hbx)
            | (go_at_call 92; refine (spec_l01Once w0 a n c b bs _ 5 HA.out hs (by omega) hC2).mono ?_; rintro ex t3 ⟨fl, rfl, hC3, hg3⟩; have s_c := hg3.size; have p_c := (only_cell hg3 (b := p) (o := 0) (by omega) hpb).trans p_b; have a_c := (only_cell hg3 (b := gg) (o := k * 2) (by omega) hgb).trans a_b; have b_c := (only_cell hg3 (b := gg) (o := k * 2 + 1) (by omega) hgb).trans b_b; have f_c := fun o => (only_free hg3 (b := gg) (o := o) (by omega) hgb).trans (f_b o); have g_c := fun o => only_cell hg3 (b := G) (o := o) (by omega) hGb; have x_c := fun o => only_cell hg3 (b := xb) (o := o) (by omega) hbx))
          all_goals
            have HSc := hide (((HS3.out.next hT1).draw hC2 hg2).draw hC3 hg3)
            have hlo : lo ≤ t1.heap.size := Nat.le_trans HS3.out.ll s_a
            have hbl : b < t1.heap.size := by have := HS3.out.bw; have := HS3.out.lw; omega
            have hr0 : OwnI t1.heap.size t2.heap.size t2 (⟨aw, 11, cw⟩, ints ws) := OwnI.of_own ow (ints_wf sw)
            have hr : OwnI t1.heap.size t3.heap.size t3 (⟨aw, 11, cw⟩, ints ws) := (hr0.off (OneW.grown hg3) (fun x y hx hy e => by injection hx with hx; subst hx; have := (hr0.1.lt hy).1; simp only at e; omega)).wide (Nat.le_refl _) hg3.size
            have ap := HS3.out.half.apart (m := t1.heap.size) s_a (a := aw) (fun x hx => (hr.1.lt hx).1)
            have HH := HSc.out.half.cell HGA.out HFE.out (r := (⟨aw, 11, cw⟩, ints ws)) (f := fl) (hr.wide hlo (Nat.le_refl _)) ap.1 ap.2.1 ap.2.2
            have hok : arOk g ({ A with es := A.es.set k ⟨⟨aw, 11, cw⟩, ints ws, fl⟩ } : Ar).con = true := by rw [con_set rfl]; exact arOk_cell (cs := A.con.cs) (ag := A.con.ag) (ht := A.con.ht) HS3.out.ok (symOk_ints sw lw)
            have hB : Below lo t3 ((t3.setCell ⟨gg, k * 2, none⟩ (.slice aw 11 cw)).setCell ⟨gg, k * 2 + 1, none⟩ (.bool fl)) := ((Below.refl lo t3).setCell hg1 _).setCell hg1 _
            have HSn := hide (HSc.out.turn HH hok hB)
            clear HH hok hB HSc ap hr hr0 a_a b_a f_a g_a x_a p_a a_b b_b f_b g_b x_b p_b a_c b_c f_c g_c x_c p_c c0 d0 d1 df kx e_g0 e_g1 e_g2 e_g3 e_x0 e_x1 e_x2
            generalize ((t3.setCell ⟨gg, k * 2, none⟩ (.slice aw 11 cw)).setCell ⟨gg, k * 2 + 1, none⟩ (.bool fl)) = Z at *
            go_wp2_with fail
            go_roundw
            case rel => exact ⟨i + 1, _, by go_num, by omega, HSn⟩
            case measure => simp [intOf]; omega
        · have b0 : (yy == 0) = false := by simpa using q0
          have b1 : (yy == 1) = false := by simpa using q1
          have kx := HKX.out
          have e_g0 := cell_blk HS3.out.kg 0; have e_g1 := cell_blk HS3.out.kg 1; have e_g2 := cell_blk HS3.out.kg 2; have e_g3 := cell_blk HS3.out.kg 3
          have e_l0 := cell_blk HS3.out.kl 0; have e_l1 := cell_blk HS3.out.kl 1
          have e_x0 := cell_blk kx 0; have e_x1 := cell_blk kx 1; have e_x2 := cell_blk kx 2
          clear kx
          go_wp2_with fail
          refine (spec_l14Sense lo p g l1 l2 A x _ HXA.out HS3.out.half HS3.out.ok HS3.out.ll).mono ?_
          rintro ex y5 ⟨rfl, A', hH', hok', hB'⟩
          have HS5 := hide (HS3.out.turn hH' hok' hB')
          clear hH' hok' hB' HS3 e_g0 e_g1 e_g2 e_g3 e_l0 e_l1 e_x0 e_x1 e_x2
          go_wp2_with fail
          go_roundw
          case rel => exact ⟨i + 1, A', by go_num, by omega, HS5⟩
          case measure => simp [intOf]; omega
    · have e_g0 := cell_blk HS1.out.kg 0; have e_g1 := cell_blk HS1.out.kg 1; have e_g2 := cell_blk HS1.out.kg 2; have e_g3 := cell_blk HS1.out.kg 3
      have e_l0 := cell_blk HS1.out.kl 0; have e_l1 := cell_blk HS1.out.kl 1
      have e_p0 := cell_blk HS1.out.half.blk 0; have e_p1 := cell_blk HS1.out.half.blk 1; have e_p2 := cell_blk HS1.out.half.blk 2
      have r00 := cell_blk HS1.out.r0 0; have r01 := cell_blk HS1.out.r0 1; have r02 := cell_blk HS1.out.r0 2; have r03 := cell_blk HS1.out.r0 3; have r0f := fun o => free_blk HS1.out.r0 o
      have r10 := cell_blk HS1.out.r1 0; have r11 := cell_blk HS1.out.r1 1; have r1f := fun o => free_blk HS1.out.r1 o
      have r20 := cell_blk HS1.out.r2 0; have r21 := cell_blk HS1.out.r2 1; have r22 := cell_blk HS1.out.r2 2; have r2f := fun o => free_blk HS1.out.r2 o
      have z0 := lt_blk HS1.out.r0; have z1 := lt_blk HS1.out.r1; have z2 := lt_blk HS1.out.r2
      have n0G : ¬ w.heap.size = G := by have := HS1.out.lG; omega
      have n1G : ¬ w.heap.size + 1 = G := by have := HS1.out.lG; omega
      have n2G : ¬ w.heap.size + 1 + 1 = G := by have := HS1.out.lG; omega
      have n0L : ¬ w.heap.size = L := by have := HS1.out.lL; omega
      have n1L : ¬ w.heap.size + 1 = L := by have := HS1.out.lL; omega
      have n2L : ¬ w.heap.size + 1 + 1 = L := by have := HS1.out.lL; omega
      have n0p : ¬ w.heap.size = p := by have := HS1.out.lw; have := HS1.out.lp; omega
      have n1p : ¬ w.heap.size + 1 = p := by have := HS1.out.lw; have := HS1.out.lp; omega
      have n2p : ¬ w.heap.size + 1 + 1 = p := by have := HS1.out.lw; have := HS1.out.lp; omega
      have j0G : ¬ G = w.heap.size := fun e => n0G e.symm
      have j1G : ¬ G = w.heap.size + 1 := fun e => n1G e.symm
      have j2G : ¬ G = w.heap.size + 1 + 1 := fun e => n2G e.symm
      have j0L : ¬ L = w.heap.size := fun e => n0L e.symm
      have j1L : ¬ L = w.heap.size + 1 := fun e => n1L e.symm
      have j2L : ¬ L = w.heap.size + 1 + 1 := fun e => n2L e.symm
      have j0p : ¬ p = w.heap.size := fun e => n0p e.symm
      have j1p : ¬ p = w.heap.size + 1 := fun e => n1p e.symm
      have j2p : ¬ p = w.heap.size + 1 + 1 := fun e => n2p e.symm
      go_wp2_with fail
      go_region_held3 (fun v => v.cell? ⟨G, 0, none⟩ = some (.int .i64 g.gr) ∧ v.cell? ⟨G, 1, none⟩ = some (.int .i64 g.bk) ∧ v.cell? ⟨G, 2, none⟩ = some (.int .i64 g.rw) ∧ v.cell? ⟨G, 3, none⟩ = some (.int .i64 g.cl) ∧ v.cell? ⟨L, 0, none⟩ = some (.int .i64 l1) ∧ v.cell? ⟨L, 1, none⟩ = some (.int .i64 l2) ∧ v.cell? ⟨p, 0, none⟩ = some (.slice A.a A.n A.c) ∧ v.cell? ⟨p, 1, none⟩ = some (.slice A.ag.1.a A.ag.1.n A.ag.1.c) ∧ v.cell? ⟨p, 2, none⟩ = some (.slice A.ht.1.a A.ht.1.n A.ht.1.c)) (first | go_keep | simp [go_sem, *]) (fail)
      all_goals
        have l0 : w.heap.size < lo := by have := HS1.out.lw; omega
        have l1' : w.heap.size + 1 < lo := by have := HS1.out.lw; omega
        have l2' : w.heap.size + 1 + 1 < lo := HS1.out.lw
        have b0 : b < w.heap.size := HS1.out.bw
        have hO : OwnAr w.heap.size ((((((((((y1.setCell ⟨w.heap.size, 0, none⟩ (.int .i64 g.gr)).setCell ⟨w.heap.size, 1, none⟩ (.int .i64 g.bk)).setCell ⟨w.heap.size, 2, none⟩ (.int .i64 g.rw)).setCell ⟨w.heap.size, 3, none⟩ (.int .i64 g.cl)).setCell ⟨w.heap.size + 1, 0, none⟩ (.int .i64 l1)).setCell ⟨w.heap.size + 1, 1, none⟩ (.int .i64 l2)).setCell ⟨w.heap.size + 1 + 1, 0, none⟩ (.slice A.a A.n A.c)).setCell ⟨w.heap.size + 1 + 1, 1, none⟩ (.slice A.ag.1.a A.ag.1.n A.ag.1.c)).setCell ⟨w.heap.size + 1 + 1, 2, none⟩ (.slice A.ht.1.a A.ht.1.n A.ht.1.c)).drew).heap.size (((((((((y1.setCell ⟨w.heap.size, 0, none⟩ (.int .i64 g.gr)).setCell ⟨w.heap.size, 1, none⟩ (.int .i64 g.bk)).setCell ⟨w.heap.size, 2, none⟩ (.int .i64 g.rw)).setCell ⟨w.heap.size, 3, none⟩ (.int .i64 g.cl)).setCell ⟨w.heap.size + 1, 0, none⟩ (.int .i64 l1)).setCell ⟨w.heap.size + 1, 1, none⟩ (.int .i64 l2)).setCell ⟨w.heap.size + 1 + 1, 0, none⟩ (.slice A.a A.n A.c)).setCell ⟨w.heap.size + 1 + 1, 1, none⟩ (.slice A.ag.1.a A.ag.1.n A.ag.1.c)).setCell ⟨w.heap.size + 1 + 1, 2, none⟩ (.slice A.ht.1.a A.ht.1.n A.ht.1.c)).drew A := (((((((((((HS1.out.half.own.set_off (.inl l0) _).set_off (.inl l0) _).set_off (.inl l0) _).set_off (.inl l0) _).set_off (.inl l1') _).set_off (.inl l1') _).set_off (.inl l2') _).set_off (.inl l2') _).set_off (.inl l2') _)).below (Below.refl y1.heap.size _).drew (Nat.le_refl _)).wide (by omega) (by simp [World.drew])
        have hCu : Cur w0 a n c b (((((((((y1.setCell ⟨w.heap.size, 0, none⟩ (.int .i64 g.gr)).setCell ⟨w.heap.size, 1, none⟩ (.int .i64 g.bk)).setCell ⟨w.heap.size, 2, none⟩ (.int .i64 g.rw)).setCell ⟨w.heap.size, 3, none⟩ (.int .i64 g.cl)).setCell ⟨w.heap.size + 1, 0, none⟩ (.int .i64 l1)).setCell ⟨w.heap.size + 1, 1, none⟩ (.int .i64 l2)).setCell ⟨w.heap.size + 1 + 1, 0, none⟩ (.slice A.a A.n A.c)).setCell ⟨w.heap.size + 1 + 1, 1, none⟩ (.slice A.ag.1.a A.ag.1.n A.ag.1.c)).setCell ⟨w.heap.size + 1 + 1, 2, none⟩ (.slice A.ht.1.a A.ht.1.n A.ht.1.c)).drew := ((((((((((HS1.out.cur.set (.inl (by omega)) _).set (.inl (by omega)) _).set (.inl (by omega)) _).set (.inl (by omega)) _).set (.inl (by omega)) _).set (.inl (by omega)) _).set (.inl (by omega)) _).set (.inl (by omega)) _).set (.inl (by omega)) _)).drew
        have hGr : w.grownBy (((((((((y1.setCell ⟨w.heap.size, 0, none⟩ (.int .i64 g.gr)).setCell ⟨w.heap.size, 1, none⟩ (.int .i64 g.bk)).setCell ⟨w.heap.size, 2, none⟩ (.int .i64 g.rw)).setCell ⟨w.heap.size, 3, none⟩ (.int .i64 g.cl)).setCell ⟨w.heap.size + 1, 0, none⟩ (.int .i64 l1)).setCell ⟨w.heap.size + 1, 1, none⟩ (.int .i64 l2)).setCell ⟨w.heap.size + 1 + 1, 0, none⟩ (.slice A.a A.n A.c)).setCell ⟨w.heap.size + 1 + 1, 1, none⟩ (.slice A.ag.1.a A.ag.1.n A.ag.1.c)).setCell ⟨w.heap.size + 1 + 1, 2, none⟩ (.slice A.ht.1.a A.ht.1.n A.ht.1.c)).drew (some b) := only_drew ((only_setCell (only_setCell (only_setCell (only_setCell (only_setCell (only_setCell (only_setCell (only_setCell (only_setCell HS1.out.grow (.inr (by omega)) _) (.inr (by omega)) _) (.inr (by omega)) _) (.inr (by omega)) _) (.inr (by omega)) _) (.inr (by omega)) _) (.inr (by omega)) _) (.inr (by omega)) _) (.inr (by omega)) _))
        go_wp2_with fail
        refine bodyPost_ret (by simp [results, Try.results61, go_sem, *]; try rfl) rfl ?_
        exact ⟨g, l1, l2, A, HGO.out, rfl, hO, HS1.out.ok, hCu, hGr⟩
end Go.Proofs.Ytkhcepmileiejaa
