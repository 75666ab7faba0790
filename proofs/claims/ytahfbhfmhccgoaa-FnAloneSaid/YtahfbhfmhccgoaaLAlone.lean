/- When a tenant is served does not depend on the requests of other tenants: for every drawn input FnAlone answers true. No condition. -/
import Derived.Test.YtahfbhfmhccgoaaServeQ
import Derived.Test.YtahfbhfmhccgoaaSameRq
import Derived.Test.YtahfbhfmhccgoaaNextP
set_option linter.unusedSimpArgs false
set_option linter.unusedVariables false
namespace Go.Proofs.Ytahfbhfmhccgoaa
open Go.RowKit Go.ChangeShapes Go.WideShapes Go.ChangeAt Go.Joins Go.Deep
open Go.ChangeMaps (open_string shut_string)
theorem slots_okA {zs : List Int} {l : Int} {m : Nat} (h1 : zs.length = m) (h2 : 1 ≤ m) (h3 : m ≤ 6) (h4 : ∀ z ∈ zs, 0 ≤ z ∧ z ≤ 2) (h5 : 20 ≤ l) (h6 : l ≤ 29) : slotsOkB zs l = true := by
  simp only [slotsOkB, Bool.and_eq_true, List.all_eq_true, btw_true]
  exact ⟨fun z hz => by have := h4 z hz; omega, ⟨by omega, by omega⟩, by omega, by omega⟩
theorem place_atA {w : World} {B : Nat} {a : Option Addr} {c : Nat} {ps : List Int} (h : w.ownsRow B 3 1 (.slice a 12 c) 12 (ps.map (.int .i64))) (hl : ps.length = 12) (hb : ∀ z ∈ ps, 0 ≤ z ∧ z ≤ 9999) (k : Nat) (hk : k < 12) :
    ∃ g x, a = some ⟨g, 0, none⟩ ∧ B ≤ g ∧ g < w.heap.size ∧ ps[k]? = some x ∧ 0 ≤ x ∧ x ≤ 9999 ∧ w.cell? ⟨g, k, none⟩ = some (.int .i64 x) := by
  obtain ⟨g, rfl, h1, h2, h3⟩ := own_some h (by omega)
  have hx : ps[k]? = some (ps[k]'(by omega)) := List.getElem?_eq_getElem _
  have := hb _ (List.mem_of_getElem? hx)
  exact ⟨g, _, rfl, h1, h2, hx, this.1, this.2, (h3 k (by omega)).trans (by rw [List.getElem?_map, hx]; rfl)⟩
set_option maxRecDepth 100000 in
set_option maxHeartbeats 8000000 in
theorem FnAlone_walk (a : Option Addr) (n c : Nat) (zs : List Int) (w : World) (ha : IsInts .u8 w a n c zs) :
    Calls Try.prog 8 #[.slice a n c] w fun e w' => e = .returned (.bool true) ∧ Below w.heap.size w w' := by
  obtain ⟨i0_Sv, hi_Sv, hz0_Sv, hz1_Sv, hz2_Sv⟩ := info_parts info_Sv
  have hm : c ≤ 9223372036854775807 := ha.2.2.1
  have hc := ha.2.1
  by_cases hs : n ≤ 1048576
  · have HA := hide ha
    clear ha
    go_enter Try.func8, Try.ntmps8
    go_wp2_with fail
    refine (laws_big a n c _ hs).mono ?_
    rintro e w' ⟨rfl, rfl⟩
    go_wp2_with fail
    refine (spec_DrawBatch a n c _ _ HA.out hs).mono ?_
    rintro e v1 ⟨g, mo, mh, sa, sm, sc, os, l, ea, en, ec, es, hgo, hg1, hg2, mo0, mo1, hsm1, hm6, hl0, hl1, hm13, rfl, hI, hob, hE, hbk, hV⟩
    have HI := hide hI; have HE := hide hE; have HBK := hide hbk
    have HEL := hide hE.1
    have hok := slots_okA hI.1 hsm1 hm6 hob hl0 hl1
    have HOK := hide hok
    have HSV := hide (show servable os l 400 es.length = true from servable_batch hok hl0 (by omega) (by omega) (by rw [HEL.out]; omega))
    obtain ⟨L, hL⟩ : ∃ L, whoS es os l 400 = L := ⟨_, rfl⟩
    obtain ⟨K, hK⟩ : ∃ K, L.length = K := ⟨_, rfl⟩
    have HW := hide (show servedAll es os l 400 = L.map (fun x => ⟨x.1.id, x.2⟩) by rw [← hL]; exact served_who hbk HSV.out)
    have HK := hide (show (servedAll es os l 400).length = K by rw [HW.out, List.length_map, hK])
    have hK1 : K ≤ 1001 := by rw [← HK.out]; exact servedAll_le _ _ _ _
    have HKL := hide hK
    have HAt := hide (fun (i : Nat) (x : Rq × Int) (hx : L[i]? = some x) => who_at (es := es) (zs := os) (l := l) (u := 400) (by omega) (by rw [hL]; exact hx))
    have HLt := hide (fun (i k : Nat) (x y : Rq × Int) (hx : L[i]? = some x) (hy : L[k]? = some y) (hik : i < k) => who_lt (es := es) (zs := os) (l := l) (u := 400) (by omega) (by rw [hL]; exact hx) (by rw [hL]; exact hy) hik)
    have hmc := hI.2.1; have hmm : sc ≤ 9223372036854775807 := hI.2.2.1
    have hec := hE.2.1; have hem : ec ≤ 9223372036854775807 := hE.2.2.1
    have HLE := hide hL
    clear hI hob hE hbk hgo hok hL hK
    have hs1 : sm ≤ 1048576 := by omega
    go_wp2_with fail
    refine (spec_DrawPlaces a n c zs _ (HA.out.below (bthen hV (by go_grown) hV.size) (Nat.le_refl _)) hs).mono ?_
    rintro e w1 ⟨ap, cp, ps, rfl, o1, hpl, hpb, h1⟩
    have s1 := h1.size
    try simp only [World.size_alloc, World.size_setCell, World.size_drew, World.heap_drewN] at s1
    have B1_1 := h1
    have z1_0 : v1.heap.size < w1.heap.size := by omega
    have q1_0 := fun o => (bcell B1_1).1 (v1.heap.size) o (by go_size)
    have f1_0 := fun o => (bcell B1_1).2 (v1.heap.size) o (by go_size)
    have z1_1 : v1.heap.size + 1 < w1.heap.size := by omega
    have q1_1 := fun o => (bcell B1_1).1 (v1.heap.size + 1) o (by go_size)
    have f1_1 := fun o => (bcell B1_1).2 (v1.heap.size + 1) o (by go_size)
    have z1_2 : v1.heap.size + 1 + 1 < w1.heap.size := by omega
    have q1_2 := fun o => (bcell B1_1).1 (v1.heap.size + 1 + 1) o (by go_size)
    have f1_2 := fun o => (bcell B1_1).2 (v1.heap.size + 1 + 1) o (by go_size)
    have H1 : Below v1.heap.size v1 w1 := bthen (by repeat' (first | (with_reducible exact Below.refl _ _) | (with_reducible assumption) | (with_reducible refine bdrawn ?_ _) | (with_reducible refine Below.alloc ?_ ?_ _) | (with_reducible refine Below.drew ?_) | (with_reducible refine Below.setCell ?_ ?_ _) | go_size)) h1 (by go_size)
    have C1 := (bcell H1).1; have F1 := (bcell H1).2
    have p := hide (Owned.of_own o1)
    clear o1
    obtain ⟨gp, x0, rfl, hgp0, hgp1, HX0, x0l, x0h, k0⟩ := place_atA p.out.1 hpl hpb 0 (by omega)
    clear HX0 hpl hpb
    have t0 : 0 ≤ x0 % 3 := Int.emod_nonneg _ (by omega)
    have t1 : x0 % 3 ≤ 2 := by omega
    go_wp2_with fail
    obtain ⟨X, rfl⟩ : ∃ W : World, W = w1 := ⟨_, rfl⟩
    have e0 : X.cell? ⟨v1.heap.size + 1 + 1, 0, none⟩ = some (.slice sa sm sc) := by rw [q1_2]; exact cell_blk (alloc_at _ _ _ (by go_size)) 0
    have e1 : X.cell? ⟨v1.heap.size + 1 + 1, 1, none⟩ = some (.int .i64 l) := by rw [q1_2]; exact cell_blk (alloc_at _ _ _ (by go_size)) 1
    have HX : Hid (Below w.heap.size w X) := bthen hV H1 hV.size
    have HIX := hide (HI.out.below H1 (Nat.le_refl _))
    have HEX := hide (HE.out.below H1 (Nat.le_refl _))
    have hsX : v1.heap.size + 1 + 1 < X.heap.size := by omega
    have hwX := HX.out.size
    clear q1_0 q1_1 q1_2 f1_0 f1_1 f1_2 C1 F1 H1 h1 B1_1 HI HE p z1_0 z1_1 z1_2 s1
    generalize v1.heap.size + 1 + 1 = sb at e0 e1 hsX ⊢
    generalize x0 % 3 = T at t0 t1 ⊢
    have HMS := hide (show servable os l 400 (keepT es T).length = true from servable_batch HOK.out hl0 (by omega) (by omega) (by have := keepT_le es T; rw [HEL.out] at this; omega))
    have HMA := hide (mine_alone (t := T) HBK.out (by omega) HMS.out)
    rw [HLE.out] at HMA
    obtain ⟨NM, hNM⟩ : ∃ N, (keepT es T).length = N := ⟨_, rfl⟩
    obtain ⟨KA, hKA⟩ : ∃ N, (servedAll (keepT es T) os l 400).length = N := ⟨_, rfl⟩
    have HNM := hide hNM; have HKA := hide hKA
    have hNM1 : NM ≤ en := by rw [← hNM, ← HEL.out]; exact keepT_le es T
    have hKA1 : KA ≤ 1001 := by rw [← hKA]; exact servedAll_le _ _ _ _
    clear hNM hKA k0
    go_wp2_with fail
    refine (impl_ServeSlots _ _ _ os l 400 _ _ _ es K _ HIX.out hs1 HEX.out HK.out).mono ?_
    rintro e w1 ⟨a1, c1, rfl, o1, h1⟩
    have s1 := h1.size
    try simp only [World.size_alloc, World.size_setCell, World.size_drew, World.heap_drewN] at s1
    have B1_1 := h1
    have z1_0 : sb < w1.heap.size := by omega
    have q1_0 := fun o => (bcell B1_1).1 (sb) o (by go_size)
    have f1_0 := fun o => (bcell B1_1).2 (sb) o (by go_size)
    have H1 : Below X.heap.size X w1 := bthen (by repeat' (first | (with_reducible exact Below.refl _ _) | (with_reducible assumption) | (with_reducible refine bdrawn ?_ _) | (with_reducible refine Below.alloc ?_ ?_ _) | (with_reducible refine Below.drew ?_) | (with_reducible refine Below.setCell ?_ ?_ _) | go_size)) h1 (by go_size)
    have C1 := (bcell H1).1; have F1 := (bcell H1).2
    have x := hide (Owned.of_own o1)
    clear o1
    go_wp2_with fail
    refine (impl_KeepTenant _ _ _ es T NM _ (HEX.out.below H1 (Nat.le_refl _)) (by omega) HNM.out).mono ?_
    rintro e w2 ⟨a2, c2, rfl, o2, h2⟩
    have s2 := h2.size
    try simp only [World.size_alloc, World.size_setCell, World.size_drew, World.heap_drewN] at s2
    have B2_1 := bnext (by first | (with_reducible exact B1_1) | exact (bgrow B1_1 (by go_size) (by repeat' (first | (with_reducible exact Below.refl _ _) | (with_reducible assumption) | (with_reducible refine bdrawn ?_ _) | (with_reducible refine Below.alloc ?_ ?_ _) | (with_reducible refine Below.drew ?_) | (with_reducible refine Below.setCell ?_ ?_ _) | go_size)))) h2 (by go_size)
    have z2_0 : sb < w2.heap.size := by omega
    have q2_0 := fun o => (bcell B2_1).1 (sb) o (by go_size)
    have f2_0 := fun o => (bcell B2_1).2 (sb) o (by go_size)
    have H2 : Below X.heap.size X w2 := bthen (by repeat' (first | (with_reducible exact Below.refl _ _) | (with_reducible assumption) | (with_reducible refine bdrawn ?_ _) | (with_reducible refine Below.alloc ?_ ?_ _) | (with_reducible refine Below.drew ?_) | (with_reducible refine Below.setCell ?_ ?_ _) | go_size)) h2 (by go_size)
    have C2 := (bcell H2).1; have F2 := (bcell H2).2
    have P2 : Below w1.heap.size w1 w2 := bthen (by repeat' (first | (with_reducible exact Below.refl _ _) | (with_reducible assumption) | (with_reducible refine bdrawn ?_ _) | (with_reducible refine Below.alloc ?_ ?_ _) | (with_reducible refine Below.drew ?_) | (with_reducible refine Below.setCell ?_ ?_ _) | go_size)) h2 (by go_size)
    replace x := hide (x.out.below P2 (by omega))
    have y := hide (Owned.of_own o2)
    clear o2
    go_wp2_with fail
    refine (impl_ServeSlots _ _ _ os l 400 _ _ _ (keepT es T) KA _ (HIX.out.below H2 (Nat.le_refl _)) hs1 (isStructs_own rqF_len (by omega) y.out.1) HKA.out).mono ?_
    rintro e w3 ⟨a3, c3, rfl, o3, h3⟩
    have s3 := h3.size
    try simp only [World.size_alloc, World.size_setCell, World.size_drew, World.heap_drewN] at s3
    have B3_1 := bnext (by first | (with_reducible exact B2_1) | exact (bgrow B2_1 (by go_size) (by repeat' (first | (with_reducible exact Below.refl _ _) | (with_reducible assumption) | (with_reducible refine bdrawn ?_ _) | (with_reducible refine Below.alloc ?_ ?_ _) | (with_reducible refine Below.drew ?_) | (with_reducible refine Below.setCell ?_ ?_ _) | go_size)))) h3 (by go_size)
    have z3_0 : sb < w3.heap.size := by omega
    have q3_0 := fun o => (bcell B3_1).1 (sb) o (by go_size)
    have f3_0 := fun o => (bcell B3_1).2 (sb) o (by go_size)
    have H3 : Below X.heap.size X w3 := bthen (by repeat' (first | (with_reducible exact Below.refl _ _) | (with_reducible assumption) | (with_reducible refine bdrawn ?_ _) | (with_reducible refine Below.alloc ?_ ?_ _) | (with_reducible refine Below.drew ?_) | (with_reducible refine Below.setCell ?_ ?_ _) | go_size)) h3 (by go_size)
    have C3 := (bcell H3).1; have F3 := (bcell H3).2
    have P3 : Below w2.heap.size w2 w3 := bthen (by repeat' (first | (with_reducible exact Below.refl _ _) | (with_reducible assumption) | (with_reducible refine bdrawn ?_ _) | (with_reducible refine Below.alloc ?_ ?_ _) | (with_reducible refine Below.drew ?_) | (with_reducible refine Below.setCell ?_ ?_ _) | go_size)) h3 (by go_size)
    replace x := hide (x.out.below P3 (by omega))
    replace y := hide (y.out.below P3 (by omega))
    have z := hide (Owned.of_own o3)
    clear o3
    obtain ⟨Y, rfl⟩ : ∃ W : World, W = w3 := ⟨_, rfl⟩
    have f0 : Y.cell? ⟨sb, 0, none⟩ = some (.slice sa sm sc) := by rw [q3_0]; exact e0
    have f1 : Y.cell? ⟨sb, 1, none⟩ = some (.int .i64 l) := by rw [q3_0]; exact e1
    have HY := hide H3
    have HEY := hide (HEX.out.below H3 (Nat.le_refl _))
    have hsY : sb < Y.heap.size := by omega
    have hXY := HY.out.size
    have HSY := hide (isStructs_own svF_len (by omega) x.out.1)
    have HZY := hide (isStructs_own svF_len (by omega) z.out.1)
    have HMY := hide (isStructs_own rqF_len (by omega) y.out.1)
    have hcx := own_caps x.out.1
    have hcx1 := hcx.1; have hcx2 : c1 ≤ 9223372036854775807 := hcx.2
    have HF0 := hide f0; have HF1 := hide f1
    clear q1_0 q2_0 q3_0 f1_0 f2_0 f3_0 C1 C2 C3 F1 F2 F3 H1 H2 H3 h1 h2 h3 B1_1 B2_1 B3_1 e0 e1 f0 f1 hcx x y z
    go_wp2_with fail
    go_loopw [12, 13] (fun vo vi wr => ∃ (i m : Nat) (ao : Option Addr) (co : Nat), i ≤ K ∧ vi = .int .i64 i ∧ vo = .slice ao m co ∧ m ≤ i ∧ Hid ((mineTo L T i).length = m) ∧ Hid (wr.ownsRow Y.heap.size 58 2 (.slice ao m co) m ((mineTo L T i).flatMap svF)) ∧ Below Y.heap.size Y wr) (fun _ vi _ => K - (intOf vi).toNat)
    case atStart => exact ⟨0, 0, _, _, by omega, rfl, rfl, by omega, hide rfl, hide (own_made_at rfl (Nat.le_refl _)), (by repeat' (first | (with_reducible exact Below.refl _ _) | (with_reducible assumption) | (with_reducible refine bdrawn ?_ _) | (with_reducible refine Below.alloc ?_ ?_ _) | (with_reducible refine Below.drew ?_) | (with_reducible refine Below.setCell ?_ ?_ _) | go_size))⟩
    case round =>
      obtain ⟨i, m, ao, co, hi, rfl, rfl, hmi, Hm, HO, hB⟩ := hrel
      by_cases hlt : i < K
      · obtain ⟨⟨p, t⟩, hy⟩ : ∃ y, L[i]? = some y := ⟨_, List.getElem?_eq_getElem (by rw [HKL.out]; exact hlt)⟩
        obtain ⟨q, hq, _⟩ := HAt.out i (p, t) hy
        simp only at hq
        have HQ := hide hq
        have HYY := hide hy
        have hqn : q < en := by have := (List.getElem?_eq_some_iff.1 hq).1; rw [HEL.out] at this; exact this
        have HSK := hide (show (servedAll es os l 400)[i]? = some ⟨p.id, t⟩ by rw [HW.out, List.getElem?_map, hy]; rfl)
        have i0 : (0 : Int) ≤ (i : Int) := by omega
        have i1 : (i : Int) < (K : Int) := by omega
        obtain ⟨X2, rfl⟩ : ∃ W : World, W = wr := ⟨_, rfl⟩
        have HBX := hide hB
        have hsX2 := hB.size
        clear hy hq hB
        go_wp2_with fail
        go_loopw [12, 14] (fun vo vk wr => ∃ (k m' : Nat) (ao' : Option Addr) (co' : Nat) (xs : List Sv), k ≤ en ∧ vk = .int .i64 k ∧ vo = .slice ao' m' co' ∧ m' ≤ m + 1 ∧ Hid (xs = if q < k ∧ (p.tenant == T) = true then mineTo L T i ++ [⟨p.id, t⟩] else mineTo L T i) ∧ Hid (xs.length = m') ∧ Hid (wr.ownsRow Y.heap.size 58 2 (.slice ao' m' co') m' (xs.flatMap svF)) ∧ Below Y.heap.size Y wr) (fun _ vk _ => en - (intOf vk).toNat)
        case atStart => exact ⟨0, m, ao, co, _, by omega, rfl, rfl, by omega, hide (by rw [if_neg (by omega)]), Hm, HO, HBX.out⟩
        case round =>
          obtain ⟨k, m', ao', co', xs, hk, rfl, rfl, hm', Hxs, Hxl, HOk, hB2⟩ := hrel
          have hsr := hB2.size
          by_cases hkn : k < en
          · obtain ⟨r, b1, o1, hh_r, rfl, hlb, hcell⟩ := HEY.out.get rqF_len (by omega) (show k < en by omega)
            have r0 : wr.cell? ⟨b1, o1 + k * 6, none⟩ = some (.int .i64 r.id) := (hB2.cell (p := ⟨b1, o1 + (k * 6 + 0), none⟩) hlb).trans (hcell 0 _ rfl)
            have r1 : wr.cell? ⟨b1, o1 + k * 6 + 1, none⟩ = some (.int .i64 r.tenant) := (hB2.cell (p := ⟨b1, o1 + (k * 6 + 1), none⟩) hlb).trans (hcell 1 _ rfl)
            have r2 : wr.cell? ⟨b1, o1 + k * 6 + 2, none⟩ = some (.int .i64 r.line) := (hB2.cell (p := ⟨b1, o1 + (k * 6 + 2), none⟩) hlb).trans (hcell 2 _ rfl)
            have r3 : wr.cell? ⟨b1, o1 + k * 6 + 3, none⟩ = some (.bool r.write) := (hB2.cell (p := ⟨b1, o1 + (k * 6 + 3), none⟩) hlb).trans (hcell 3 _ rfl)
            have r4 : wr.cell? ⟨b1, o1 + k * 6 + 4, none⟩ = some (.int .i64 r.data) := (hB2.cell (p := ⟨b1, o1 + (k * 6 + 4), none⟩) hlb).trans (hcell 4 _ rfl)
            have r5 : wr.cell? ⟨b1, o1 + k * 6 + 5, none⟩ = some (.int .i64 r.tm) := (hB2.cell (p := ⟨b1, o1 + (k * 6 + 5), none⟩) hlb).trans (hcell 5 _ rfl)
            have HE_r := hide hh_r
            have sz_r := hB2.size
            have lt_b1 : b1 < wr.heap.size := (by have := hB2.size; omega)
            have lw_b1 := hlb
            have i0_r : (0 : Int) ≤ (k : Int) := by omega
            have i1_r : (k : Int) < (en : Int) := by omega
            clear hcell hlb hh_r
            obtain ⟨v, b2, o2, hh_v, rfl, hlb, hcell⟩ := HSY.out.get svF_len (by omega) (show i < K by omega)
            have v0 : wr.cell? ⟨b2, o2 + i * 2, none⟩ = some (.int .i64 v.id) := (hB2.cell (p := ⟨b2, o2 + (i * 2 + 0), none⟩) hlb).trans (hcell 0 _ rfl)
            have v1 : wr.cell? ⟨b2, o2 + i * 2 + 1, none⟩ = some (.int .i64 v.tm) := (hB2.cell (p := ⟨b2, o2 + (i * 2 + 1), none⟩) hlb).trans (hcell 1 _ rfl)
            have HE_v := hide hh_v
            have sz_v := hB2.size
            have lt_b2 : b2 < wr.heap.size := (by have := hB2.size; omega)
            have lw_b2 := hlb
            have i0_v : (0 : Int) ≤ (i : Int) := by omega
            have i1_v : (i : Int) < (K : Int) := by omega
            clear hcell hlb hh_v
            obtain rfl : v = ⟨p.id, t⟩ := by have := HE_v.out; rw [HSK.out] at this; injection this with this; exact this.symm
            simp only at v0 v1
            by_cases hkq : k = q
            · subst hkq
              obtain rfl : r = p := by have := HE_r.out; rw [HQ.out] at this; injection this with this; exact this.symm
              have Hxs0 := hide (show xs = mineTo L T i by rw [Hxs.out, if_neg (by omega)])
              cases q1 : (r.tenant == T)
              · go_wp2_with fail
                go_quiet (fail)
                go_wp2_with fail
                go_roundw
                case rel => exact ⟨k + 1, m', ao', co', xs, by omega, by go_num, rfl, hm', hide (by rw [Hxs0.out, if_neg (by simp)]), Hxl, hide (own_below HOk.out (bdrawn (Below.refl wr.heap.size wr) _) (fun q hq => (HOk.out.lt q hq).2)), bdrawn hB2 _⟩
                case measure => simp [intOf]; omega
              · go_wp2_with fail
                go_quiet (fail)
                have hBZ := bdrawn hB2 nq
                have HOZ := hide (own_below HOk.out (bdrawn (Below.refl wr.heap.size wr) nq) (fun q hq => (HOk.out.lt q hq).2))
                have v0' := ((bdrawn (Below.refl wr.heap.size wr) nq).cell (p := ⟨b2, o2 + i * 2, none⟩) lt_b2).trans v0
                have v1' := ((bdrawn (Below.refl wr.heap.size wr) nq).cell (p := ⟨b2, o2 + i * 2 + 1, none⟩) lt_b2).trans v1
                have hsz : wr.heap.size ≤ (wr.drewN nq).heap.size := Nat.le_refl _
                generalize wr.drewN nq = Z at hBZ HOZ v0' v1' hsz ⊢
                go_wp2_with (at_builtin; refine wpList_append_own _ rfl _ _ 55 rfl Y.heap.size 58 i0_Sv (.agg #[.int .i64 0, .int .i64 0]) 2 16 Try.underlying55 hi_Sv hz0_Sv hz1_Sv hz2_Sv rfl (by decide) _ _ _ rfl (HOZ.out.alloc _) ⟨Z.heap.size, 0, none⟩ 1 1 [.int .i64 r.id, .int .i64 t] rfl rfl ?c1 ?c2 ?c3 ?c4 ?c5 ?_)
                case c1 => exact news_at_of _ _ _ (by go_size)
                case c2 => exact List.all_eq_true.1 rfl
                case c3 => unfold maxLen; omega
                case c4 => omega
                case c5 => (first | go_size | (simp; omega))
                intro v' wp hownp hgp _
                obtain ⟨ap, cp, rfl⟩ := own_shape hownp
                obtain ⟨hBp, hsp⟩ := below_app hBZ HOZ.out (by omega) (by omega) hgp
                have HGp := hide hgp; clear hgp
                go_wp2_with fail
                go_roundw
                case rel => exact ⟨k + 1, m' + 1, _, _, xs ++ [⟨r.id, t⟩], by omega, by go_num, rfl, by have h1 := Hm.out; have h2 := Hxl.out; rw [Hxs0.out] at h2; omega, hide (by rw [Hxs0.out, if_pos ⟨by omega, by first | exact q1 | trivial⟩]), hide (by simp [Hxl.out]), hide (by simpa [svF] using hownp), hBp⟩
                case measure => simp [intOf]; omega
            · have hne : (r.id == p.id) = false := by simpa using batch_ids HBK.out HE_r.out HQ.out hkq
              go_wp2_with fail
              go_quiet (fail)
              go_wp2_with fail
              go_roundw
              case rel => exact ⟨k + 1, m', ao', co', xs, by omega, by go_num, rfl, hm', hide (by rw [Hxs.out]; by_cases h : q < k ∧ (p.tenant == T) = true; rw [if_pos h, if_pos ⟨by omega, h.2⟩]; rw [if_neg h, if_neg (fun g => h ⟨by omega, g.2⟩)]), Hxl, hide (own_below HOk.out (bdrawn (Below.refl wr.heap.size wr) _) (fun q hq => (HOk.out.lt q hq).2)), bdrawn hB2 _⟩
              case measure => simp [intOf]; omega
          · obtain rfl : k = en := by omega
            have Hx2 := hide (show xs = mineTo L T (i + 1) by
              rw [Hxs.out]
              cases q1 : (p.tenant == T)
              · rw [if_neg (by simp), mineTo_no HYY.out q1]
              · rw [if_pos ⟨hqn, rfl⟩, mineTo_yes HYY.out q1])
            go_wp2_with fail
            go_roundw
            case rel => exact ⟨i + 1, m', ao', co', by omega, by go_num, rfl, by omega, hide (by rw [← Hx2.out]; exact Hxl.out), hide (by rw [← Hx2.out]; exact HOk.out), hB2⟩
            case measure => simp [intOf]; omega
      · obtain rfl : i = K := by omega
        have HMK := hide (show mineTo L T i = servedAll (keepT es T) os l 400 by rw [← HKL.out]; exact HMA.out)
        obtain rfl : m = KA := by rw [← HKA.out, ← HMK.out, Hm.out]
        have hsr := hB.size
        have g0 := (hB.cell (p := ⟨sb, 0, none⟩) hsY).trans HF0.out
        have g1 := (hB.cell (p := ⟨sb, 1, none⟩) hsY).trans HF1.out
        have HOw := HO
        rw [HMK.out] at HOw
        have hsbr : sb < wr.heap.size := by omega
        go_wp2_with fail
        refine (laws_sameServed _ _ _ _ _ (servedAll (keepT es T) os l 400) _ (isStructs_own svF_len (by omega) HOw.out) (HZY.out.below hB (Nat.le_refl _))).mono ?_
        rintro e w1 ⟨rfl, h1⟩
        have s1 := h1.size
        try simp only [World.size_alloc, World.size_setCell, World.size_drew, World.heap_drewN] at s1
        have B1_1 := h1
        have z1_0 : sb < w1.heap.size := by omega
        have q1_0 := fun o => (bcell B1_1).1 (sb) o (by go_size)
        have f1_0 := fun o => (bcell B1_1).2 (sb) o (by go_size)
        have H1 : Below wr.heap.size wr w1 := bthen (by repeat' (first | (with_reducible exact Below.refl _ _) | (with_reducible assumption) | (with_reducible refine bdrawn ?_ _) | (with_reducible refine Below.alloc ?_ ?_ _) | (with_reducible refine Below.drew ?_) | (with_reducible refine Below.setCell ?_ ?_ _) | go_size)) h1 (by go_size)
        have C1 := (bcell H1).1; have F1 := (bcell H1).2
        go_wp2_with fail
        refine (spec_KeepTenant _ _ _ es T NM _ ((HEY.out.below hB (Nat.le_refl _)).below H1 (Nat.le_refl _)) (by omega) HNM.out).mono ?_
        rintro e w2 ⟨a2, c2, rfl, o2, h2⟩
        have s2 := h2.size
        try simp only [World.size_alloc, World.size_setCell, World.size_drew, World.heap_drewN] at s2
        have B2_1 := bnext (by first | (with_reducible exact B1_1) | exact (bgrow B1_1 (by go_size) (by repeat' (first | (with_reducible exact Below.refl _ _) | (with_reducible assumption) | (with_reducible refine bdrawn ?_ _) | (with_reducible refine Below.alloc ?_ ?_ _) | (with_reducible refine Below.drew ?_) | (with_reducible refine Below.setCell ?_ ?_ _) | go_size)))) h2 (by go_size)
        have z2_0 : sb < w2.heap.size := by omega
        have q2_0 := fun o => (bcell B2_1).1 (sb) o (by go_size)
        have f2_0 := fun o => (bcell B2_1).2 (sb) o (by go_size)
        have H2 : Below wr.heap.size wr w2 := bthen (by repeat' (first | (with_reducible exact Below.refl _ _) | (with_reducible assumption) | (with_reducible refine bdrawn ?_ _) | (with_reducible refine Below.alloc ?_ ?_ _) | (with_reducible refine Below.drew ?_) | (with_reducible refine Below.setCell ?_ ?_ _) | go_size)) h2 (by go_size)
        have C2 := (bcell H2).1; have F2 := (bcell H2).2
        have u := hide (Owned.of_own o2)
        clear o2
        go_wp2_with fail
        refine (laws_sameRequest _ _ _ _ _ (keepT es T) _ ((HMY.out.below hB (Nat.le_refl _)).below H2 (Nat.le_refl _)) (isStructs_own rqF_len (by omega) u.out.1)).mono ?_
        rintro e w3 ⟨rfl, h3⟩
        have s3 := h3.size
        try simp only [World.size_alloc, World.size_setCell, World.size_drew, World.heap_drewN] at s3
        have B3_1 := bnext (by first | (with_reducible exact B2_1) | exact (bgrow B2_1 (by go_size) (by repeat' (first | (with_reducible exact Below.refl _ _) | (with_reducible assumption) | (with_reducible refine bdrawn ?_ _) | (with_reducible refine Below.alloc ?_ ?_ _) | (with_reducible refine Below.drew ?_) | (with_reducible refine Below.setCell ?_ ?_ _) | go_size)))) h3 (by go_size)
        have z3_0 : sb < w3.heap.size := by omega
        have q3_0 := fun o => (bcell B3_1).1 (sb) o (by go_size)
        have f3_0 := fun o => (bcell B3_1).2 (sb) o (by go_size)
        have H3 : Below wr.heap.size wr w3 := bthen (by repeat' (first | (with_reducible exact Below.refl _ _) | (with_reducible assumption) | (with_reducible refine bdrawn ?_ _) | (with_reducible refine Below.alloc ?_ ?_ _) | (with_reducible refine Below.drew ?_) | (with_reducible refine Below.setCell ?_ ?_ _) | go_size)) h3 (by go_size)
        have C3 := (bcell H3).1; have F3 := (bcell H3).2
        have P3 : Below w2.heap.size w2 w3 := bthen (by repeat' (first | (with_reducible exact Below.refl _ _) | (with_reducible assumption) | (with_reducible refine bdrawn ?_ _) | (with_reducible refine Below.alloc ?_ ?_ _) | (with_reducible refine Below.drew ?_) | (with_reducible refine Below.setCell ?_ ?_ _) | go_size)) h3 (by go_size)
        replace u := hide (u.out.below P3 (by omega))
        go_wp2_with fail
        refine (spec_ServeSlots _ _ _ os l 400 _ _ _ es i _ (((HIX.out.below HY.out (Nat.le_refl _)).below hB (by omega)).below H3 (Nat.le_refl _)) hs1 ((HEY.out.below hB (Nat.le_refl _)).below H3 (Nat.le_refl _)) HK.out).mono ?_
        rintro e w4 ⟨ar, cr, rfl, o4, h4⟩
        have s4 := h4.size
        try simp only [World.size_alloc, World.size_setCell, World.size_drew, World.heap_drewN] at s4
        have B4_1 := bnext (by first | (with_reducible exact B3_1) | exact (bgrow B3_1 (by go_size) (by repeat' (first | (with_reducible exact Below.refl _ _) | (with_reducible assumption) | (with_reducible refine bdrawn ?_ _) | (with_reducible refine Below.alloc ?_ ?_ _) | (with_reducible refine Below.drew ?_) | (with_reducible refine Below.setCell ?_ ?_ _) | go_size)))) h4 (by go_size)
        have z4_0 : sb < w4.heap.size := by omega
        have q4_0 := fun o => (bcell B4_1).1 (sb) o (by go_size)
        have f4_0 := fun o => (bcell B4_1).2 (sb) o (by go_size)
        have H4 : Below wr.heap.size wr w4 := bthen (by repeat' (first | (with_reducible exact Below.refl _ _) | (with_reducible assumption) | (with_reducible refine bdrawn ?_ _) | (with_reducible refine Below.alloc ?_ ?_ _) | (with_reducible refine Below.drew ?_) | (with_reducible refine Below.setCell ?_ ?_ _) | go_size)) h4 (by go_size)
        have C4 := (bcell H4).1; have F4 := (bcell H4).2
        have P4 : Below w3.heap.size w3 w4 := bthen (by repeat' (first | (with_reducible exact Below.refl _ _) | (with_reducible assumption) | (with_reducible refine bdrawn ?_ _) | (with_reducible refine Below.alloc ?_ ?_ _) | (with_reducible refine Below.drew ?_) | (with_reducible refine Below.setCell ?_ ?_ _) | go_size)) h4 (by go_size)
        replace u := hide (u.out.below P4 (by omega))
        go_wp2_with fail
        go_ret
        exact ⟨rfl, bthen HX.out (bthen HY.out (bthen hB H4 (by omega)) (by omega)) (by omega)⟩
  · go_enter Try.func8, Try.ntmps8
    go_wp2_with fail
    refine (laws_big_yes a n c _ hm hc hs).mono ?_
    rintro e w' ⟨rfl, rfl⟩
    go_wp2_with fail
    go_ret
    exact ⟨rfl, by go_grown⟩

set_option maxRecDepth 100000 in
theorem FnAlone_lifted (os : Os) (started : os.Started) (H : Type) (enc : TypeId × Value → H) :
    ReturnsInHanded {} Try.checked os 8 .any (Rows.fnAloneSpec.pre6 enc Try.prog Try.f8 Rows.fnAloneRow.domain false) (Rows.fnAloneSpec.post enc Try.prog Try.f8 false true false false) := by
  refine returnsInHanded_of_change (C := Try.checked) try_own started (by kernel_rfl) Try.func8
    (ChangeSpec.witness6 (enc := enc) (C := Try.checked) false ⟨#[], #[.slice none 0 0], []⟩ 8 (by kernel_rfl) (by kernel_rfl) (by kernel_rfl) (by kernel_rfl)) ?_
  intro W base args ds gs before hval0 hW _ _
  have hval : ∀ (j : Nat) t v, Try.f8.params[j]? = some t → args[j]? = some v → Value.okWide Try.prog W .any base t v := hval0
  have hW' := hW
  obtain ⟨p, q, hA0, hV, rfl, hfz, hnd⟩ := hW
  have hA : DataW.TrodAll enc Try.prog W 0 (fun _ => true) true Try.f8.params.toList args.toList ds p := hA0
  rw [Try.params8] at hA hval
  obtain ⟨v0, vs0, d0, ds0, p0, q0, hargs, rfl, rfl, h0, r0⟩ := trodAll_cons hA
  obtain ⟨rfl, rfl, rfl⟩ := trodAll_nil r0
  obtain rfl : args = #[v0] := by cases args; simp_all
  obtain ⟨rfl, rfl⟩ := trodVars_none hV
  have k0 := h0
  have lt0 : ∀ x ∈ p0, x.block < W.heap.size := by obtain ⟨m, hm⟩ := k0; exact DataW.trod_lt m _ _ _ hm
  obtain ⟨b_x0, m_x0, l_x0, rfl⟩ := okWide_slice Try.underlying22 (hval 0 22 v0 rfl rfl)
  obtain ⟨fu0, h0⟩ := h0
  obtain ⟨a_x0, n_x0, c_x0, x0, e_x0, w_x0⟩ := isBytes_of Try.underlying22 Try.underlying5 (by kernel_rfl) h0
  simp only [Value.cells, List.cons.injEq, and_true] at e_x0
  obtain ⟨q1, q2, q3⟩ : b_x0 = a_x0 ∧ m_x0 = n_x0 ∧ l_x0 = c_x0 := by simpa using e_x0
  replace q1 := q1.symm; replace q2 := q2.symm; replace q3 := q3.symm; subst q1 q2 q3
  clear hA0 hval0
  refine (FnAlone_walk a_x0 n_x0 c_x0 x0 W w_x0).mono fun e W' ⟨he, bel⟩ => ?_
  subst he
  exact ⟨_, rfl, _, _, _, [], _, [], hW', trodAll_mk1 (shut_bool Try.underlying4 _), (trodAll_cons_mk (Below.trod try_laidOut (by kernel_rfl) (of_decide_eq_true (by kernel_rfl)) k0 bel lt0) trodAll_mk0), rfl, bel.frame _, fun h => by cases h⟩

theorem FnAlone_holds : Rows.FnAloneSaid :=
  OpenClaim.holds_of_wide 8 Try.f8 rfl rfl rfl rfl rfl rfl rfl ⟨rfl, rfl, rfl, rfl, rfl⟩ rfl rfl rfl rfl rfl (by kernel_rfl) Try.func8 (by kernel_rfl)
    (of_decide_eq_true (by kernel_rfl)) (by unfold Func.isWrapper; rw [if_neg (of_decide_eq_false (by kernel_rfl))]; exact ⟨rfl, rfl⟩)
    (fun os started H enc _ => FnAlone_lifted os started H enc)
#print axioms FnAlone_holds
end Go.Proofs.Ytahfbhfmhccgoaa
