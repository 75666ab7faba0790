/- A request is served at most once, in a slot of its tenant, and not before it arrives: for every drawn input FnServed answers true. No condition. -/
import Derived.Test.YtahfbhfmhccgoaaServeQ
set_option linter.unusedSimpArgs false
set_option linter.unusedVariables false
namespace Go.Proofs.Ytahfbhfmhccgoaa
open Go.RowKit Go.ChangeShapes Go.WideShapes Go.ChangeAt Go.Joins Go.Deep
open Go.ChangeMaps (open_string shut_string)
theorem slots_okS {zs : List Int} {l : Int} {m : Nat} (h1 : zs.length = m) (h2 : 1 ≤ m) (h3 : m ≤ 6) (h4 : ∀ z ∈ zs, 0 ≤ z ∧ z ≤ 2) (h5 : 20 ≤ l) (h6 : l ≤ 29) : slotsOkB zs l = true := by
  simp only [slotsOkB, Bool.and_eq_true, List.all_eq_true, btw_true]
  exact ⟨fun z hz => by have := h4 z hz; omega, ⟨by omega, by omega⟩, by omega, by omega⟩
theorem below_drewN {w w1 : World} {n : Nat} (h : Below (w.drewN n).heap.size (w.drewN n) w1) : Below w.heap.size w w1 := bthen (bdrawn (Below.refl _ _) n) h (Nat.le_refl _)
set_option maxRecDepth 100000 in
set_option maxHeartbeats 8000000 in
theorem FnServed_walk (a : Option Addr) (n c : Nat) (zs : List Int) (w : World) (ha : IsInts .u8 w a n c zs) :
    Calls Try.prog 7 #[.slice a n c] w fun e w' => e = .returned (.bool true) ∧ Below w.heap.size w w' := by
  have hm : c ≤ 9223372036854775807 := ha.2.2.1
  have hc := ha.2.1
  by_cases hs : n ≤ 1048576
  · have HA := hide ha
    clear ha
    go_enter Try.func7, Try.ntmps7
    go_wp2_with fail
    refine (laws_big a n c _ hs).mono ?_
    rintro e w' ⟨rfl, rfl⟩
    go_wp2_with fail
    refine (spec_DrawBatch a n c _ _ HA.out hs).mono ?_
    rintro e v1 ⟨g, mo, mh, sa, sm, sc, os, l, ea, en, ec, es, hgo, hg1, hg2, mo0, mo1, hsm1, hm6, hl0, hl1, hm13, rfl, hI, hob, hE, hbk, hV⟩
    have HI := hide hI; have HE := hide hE; have HBK := hide hbk
    have HEL := hide hE.1
    have hok := slots_okS hI.1 hsm1 hm6 hob hl0 hl1
    have HOK := hide hok
    have HSV := hide (show servable os l 600 es.length = true from servable_batch hok hl0 (by omega) (by omega) (by rw [HEL.out]; omega))
    obtain ⟨L, hL⟩ : ∃ L, whoS es os l 600 = L := ⟨_, rfl⟩
    obtain ⟨K, hK⟩ : ∃ K, L.length = K := ⟨_, rfl⟩
    have HW := hide (show servedAll es os l 600 = L.map (fun x => ⟨x.1.id, x.2⟩) by rw [← hL]; exact served_who hbk HSV.out)
    have HK := hide (show (servedAll es os l 600).length = K by rw [HW.out, List.length_map, hK])
    have hK1 : K ≤ 1001 := by rw [← HK.out]; exact servedAll_le _ _ _ _
    have HKL := hide hK
    have HAt := hide (fun (i : Nat) (x : Rq × Int) (hx : L[i]? = some x) => who_at (es := es) (zs := os) (l := l) (u := 600) (by omega) (by rw [hL]; exact hx))
    have HLt := hide (fun (i k : Nat) (x y : Rq × Int) (hx : L[i]? = some x) (hy : L[k]? = some y) (hik : i < k) => who_lt (es := es) (zs := os) (l := l) (u := 600) (by omega) (by rw [hL]; exact hx) (by rw [hL]; exact hy) hik)
    have hmc := hI.2.1; have hmm : sc ≤ 9223372036854775807 := hI.2.2.1
    have hec := hE.2.1; have hem : ec ≤ 9223372036854775807 := hE.2.2.1
    clear hI hob hE hbk hgo hok hL hK
    have hs1 : sm ≤ 1048576 := by omega
    go_wp2_with fail
    refine (impl_ServeSlots _ _ _ os l 600 _ _ _ es K _ (HI.out.below (B := v1.heap.size) (by go_grown) (Nat.le_refl _)) hs1 (HE.out.below (B := v1.heap.size) (by go_grown) (Nat.le_refl _)) HK.out).mono ?_
    rintro e w1 ⟨a1, c1, rfl, o1, h1⟩
    have s1 := h1.size
    try simp only [World.size_alloc, World.size_setCell, World.size_drew, World.heap_drewN] at s1
    have B1_1 := h1
    have z1_0 : v1.heap.size < w1.heap.size := by omega
    have q1_0 := fun o => (bcell B1_1).1 (v1.heap.size) o (by go_size)
    have f1_0 := fun o => (bcell B1_1).2 (v1.heap.size) o (by go_size)
    have z1_1 : v1.heap.size + 1 < w1.heap.size := by omega
    have q1_1 := fun o => (bcell B1_1).1 (v1.heap.size + 1) o (by go_size)
    have f1_1 := fun o => (bcell B1_1).2 (v1.heap.size + 1) o (by go_size)
    have z1_2 : v1.heap.size + 1 + 1 < w1.heap.size := by omega
    have q1_2 := fun o => (bcell B1_1).1 (v1.heap.size + 1 + 1) o (by go_size)
    have f1_2 := fun o => (bcell B1_1).2 (v1.heap.size + 1 + 1) o (by go_size)
    have H1 : Below v1.heap.size v1 w1 := bthen (by repeat' (first | (with_reducible exact Below.refl _ _) | (with_reducible assumption) | (with_reducible refine bdrawn ?_ _) | (with_reducible refine Below.alloc ?_ ?_ _) | (with_reducible refine Below.drew ?_) | (with_reducible refine Below.setCell ?_ ?_ _) | go_size)) h1 (by go_size)
    have C1 := (bcell H1).1; have F1 := (bcell H1).2
    have x := hide (Owned.of_own o1)
    clear o1
    obtain ⟨X, rfl⟩ : ∃ W : World, W = w1 := ⟨_, rfl⟩
    have hcx := own_caps x.out.1
    have hcx1 := hcx.1; have hcx2 : c1 ≤ 9223372036854775807 := hcx.2
    have e0 : X.cell? ⟨v1.heap.size + 1 + 1, 0, none⟩ = some (.slice sa sm sc) := by rw [q1_2]; exact cell_blk (alloc_at _ _ _ (by go_size)) 0
    have e1 : X.cell? ⟨v1.heap.size + 1 + 1, 1, none⟩ = some (.int .i64 l) := by rw [q1_2]; exact cell_blk (alloc_at _ _ _ (by go_size)) 1
    have HX : Hid (Below w.heap.size w X) := bthen hV H1 hV.size
    have HIX := hide (HI.out.below H1 (Nat.le_refl _))
    have HEX := hide (HE.out.below H1 (Nat.le_refl _))
    have HSX := hide (isStructs_own svF_len (by omega) x.out.1)
    have hsX : v1.heap.size + 1 + 1 < X.heap.size := by omega
    have hwX := HX.out.size
    clear q1_0 q1_1 q1_2 f1_0 f1_1 f1_2 C1 F1 H1 h1 B1_1 HI HE hcx x z1_0 z1_1 z1_2 s1
    generalize v1.heap.size + 1 + 1 = sb at e0 e1 hsX ⊢
    have HE0 := hide e0; have HE1 := hide e1
    clear e0 e1
    go_wp2_with fail
    go_loopw [8] (fun vi wr => ∃ i : Nat, i ≤ K ∧ vi = .int .i64 i ∧ Below X.heap.size X wr) (fun vi _ => K - (intOf vi).toNat)
    case atStart => exact ⟨0, by omega, rfl, Below.refl _ _⟩
    case round =>
      obtain ⟨i, hi, rfl, hB⟩ := hrel
      by_cases hlt : i < K
      · obtain ⟨⟨p, t⟩, hy⟩ : ∃ y, L[i]? = some y := ⟨_, List.getElem?_eq_getElem (by rw [HKL.out]; exact hlt)⟩
        obtain ⟨q, hq, hqo, hqt, hy0, hy1, hym, hyt⟩ := HAt.out i (p, t) hy
        simp only at hq hqo hqt hy0 hy1 hym hyt
        have HY := hide hy; have HQ := hide hq; have HQO := hide hqo; have HYM := hide hym; have HYT := hide hyt
        have hqn : q < en := by have := (List.getElem?_eq_some_iff.1 hq).1; rw [HEL.out] at this; exact this
        have HSK := hide (show (servedAll es os l 600)[i]? = some ⟨p.id, t⟩ by rw [HW.out, List.getElem?_map, hy]; rfl)
        have i0 : (0 : Int) ≤ (i : Int) := by omega
        have i1 : (i : Int) < (K : Int) := by omega
        obtain ⟨X2, rfl⟩ : ∃ W : World, W = wr := ⟨_, rfl⟩
        have HBX := hide hB
        have hsX2 := hB.size
        clear hy hq hqo hB hym hyt
        go_wp2_with fail
        go_loopw [9, 10] (fun vn vk wr => ∃ (k : Nat) (cnt : Int), k ≤ en ∧ vk = .int .i64 k ∧ vn = .int .i64 cnt ∧ 0 ≤ cnt ∧ cnt ≤ 1 ∧ Hid (cnt = if q < k then 1 else 0) ∧ Below X2.heap.size X2 wr) (fun _ vk _ => en - (intOf vk).toNat)
        case atStart => exact ⟨0, 0, by omega, rfl, rfl, by omega, by omega, hide rfl, Below.refl _ _⟩
        case round =>
          obtain ⟨k, cnt, hk, rfl, rfl, hc0, hc1, HC, hB⟩ := hrel
          have hB2 := bthen HBX.out hB (by omega)
          have hsr := hB2.size
          have hsr2 := hB.size
          by_cases hkn : k < en
          · obtain ⟨r, b1, o1, hh_r, rfl, hlb, hcell⟩ := HEX.out.get rqF_len (by omega) (show k < en by omega)
            have r0 : wr.cell? ⟨b1, o1 + k * 6, none⟩ = some (.int .i64 r.id) := (hB2.cell (p := ⟨b1, o1 + (k * 6 + 0), none⟩) hlb).trans (hcell 0 _ rfl)
            have r1 : wr.cell? ⟨b1, o1 + k * 6 + 1, none⟩ = some (.int .i64 r.tenant) := (hB2.cell (p := ⟨b1, o1 + (k * 6 + 1), none⟩) hlb).trans (hcell 1 _ rfl)
            have r2 : wr.cell? ⟨b1, o1 + k * 6 + 2, none⟩ = some (.int .i64 r.line) := (hB2.cell (p := ⟨b1, o1 + (k * 6 + 2), none⟩) hlb).trans (hcell 2 _ rfl)
            have r3 : wr.cell? ⟨b1, o1 + k * 6 + 3, none⟩ = some (.bool r.write) := (hB2.cell (p := ⟨b1, o1 + (k * 6 + 3), none⟩) hlb).trans (hcell 3 _ rfl)
            have r4 : wr.cell? ⟨b1, o1 + k * 6 + 4, none⟩ = some (.int .i64 r.data) := (hB2.cell (p := ⟨b1, o1 + (k * 6 + 4), none⟩) hlb).trans (hcell 4 _ rfl)
            have r5 : wr.cell? ⟨b1, o1 + k * 6 + 5, none⟩ = some (.int .i64 r.tm) := (hB2.cell (p := ⟨b1, o1 + (k * 6 + 5), none⟩) hlb).trans (hcell 5 _ rfl)
            have HE_r := hide hh_r
            have sz_r := hB2.size
            have lt_b1 : b1 < wr.heap.size := (by have := hB2.size; omega)
            have lw_b1 := hlb
            have i0_r : (0 : Int) ≤ (k : Int) := by omega
            have i1_r : (k : Int) < (en : Int) := by omega
            clear hcell hlb hh_r
            obtain ⟨v, b2, o2, hh_v, rfl, hlb, hcell⟩ := HSX.out.get svF_len (by omega) (show i < K by omega)
            have v0 : wr.cell? ⟨b2, o2 + i * 2, none⟩ = some (.int .i64 v.id) := (hB2.cell (p := ⟨b2, o2 + (i * 2 + 0), none⟩) hlb).trans (hcell 0 _ rfl)
            have v1 : wr.cell? ⟨b2, o2 + i * 2 + 1, none⟩ = some (.int .i64 v.tm) := (hB2.cell (p := ⟨b2, o2 + (i * 2 + 1), none⟩) hlb).trans (hcell 1 _ rfl)
            have HE_v := hide hh_v
            have sz_v := hB2.size
            have lt_b2 : b2 < wr.heap.size := (by have := hB2.size; omega)
            have lw_b2 := hlb
            have i0_v : (0 : Int) ≤ (i : Int) := by omega
            have i1_v : (i : Int) < (K : Int) := by omega
            clear hcell hlb hh_v
            obtain rfl : v = ⟨p.id, t⟩ := by have := HE_v.out; rw [HSK.out] at this; injection this with this; exact this.symm
            simp only at v0 v1
            by_cases hkq : k = q
            · subst hkq
              obtain rfl : r = p := by have := HE_r.out; rw [HQ.out] at this; injection this with this; exact this.symm
              have HC0 : cnt = 0 := by rw [HC.out, if_neg (by omega)]
              subst HC0
              have s0 := (hB2.cell (p := ⟨sb, 0, none⟩) hsX).trans HE0.out
              have s1 := (hB2.cell (p := ⟨sb, 1, none⟩) hsX).trans HE1.out
              have hsbr : sb < wr.heap.size := by omega
              have hl1 : b1 < wr.heap.size := by omega
              have hl2 : b2 < wr.heap.size := by omega
              have g1 : decide (t < r.tm) = false := by simpa using hqt
              go_wp2_with fail
              go_quiet (fail)
              go_wp2_with fail
              go_region_held3 (fun v => v.cell? ⟨sb, 0, none⟩ = some (.slice sa sm sc) ∧ v.cell? ⟨sb, 1, none⟩ = some (.int .i64 l) ∧ v.cell? ⟨b2, o2 + i * 2 + 1, none⟩ = some (.int .i64 t) ∧ v.cell? ⟨b1, o1 + k * 6 + 1, none⟩ = some (.int .i64 r.tenant) ∧ v.cell? ⟨b1, o1 + k * 6 + 5, none⟩ = some (.int .i64 r.tm)) (go_keep) ((go_at_call 30; refine (impl_OwnerAt_is _ _ _ os l t r.tenant HQO.out _ (by omega) ((HIX.out.below hB2 (Nat.le_refl _)).below (bdrawn (Below.refl wr.heap.size wr) _) (Nat.le_refl _)) hs1).mono ?_; rintro e w1 ⟨rfl, h1⟩; replace h1 := below_drewN h1; have hB3 : Below X2.heap.size X2 w1 := bthen hB h1 (by omega); obtain ⟨hcc1, hff1⟩ := bcell h1))
              go_wp2_with fail
              go_roundw
              case rel => exact ⟨k + 1, 1, by omega, by go_num, rfl, by omega, by omega, hide (by rw [if_pos (by omega)]), by assumption⟩
              case measure => simp [intOf]; omega
            · have hne : (r.id == p.id) = false := by simpa using batch_ids HBK.out HE_r.out HQ.out hkq
              go_wp2_with fail
              go_quiet (fail)
              go_wp2_with fail
              go_roundw
              case rel => exact ⟨k + 1, cnt, by omega, by go_num, rfl, by omega, by omega, hide (by rw [HC.out]; by_cases h : q < k; rw [if_pos h, if_pos (by omega)]; rw [if_neg h, if_neg (by omega)]), bdrawn hB _⟩
              case measure => simp [intOf]; omega
          · obtain rfl : k = en := by omega
            have HC0 : cnt = 1 := by rw [HC.out, if_pos hqn]
            subst HC0
            clear HC
            obtain ⟨v, b2, o2, hh_v, rfl, hlb, hcell⟩ := HSX.out.get svF_len (by omega) (show i < K by omega)
            have v0 : wr.cell? ⟨b2, o2 + i * 2, none⟩ = some (.int .i64 v.id) := (hB2.cell (p := ⟨b2, o2 + (i * 2 + 0), none⟩) hlb).trans (hcell 0 _ rfl)
            have v1 : wr.cell? ⟨b2, o2 + i * 2 + 1, none⟩ = some (.int .i64 v.tm) := (hB2.cell (p := ⟨b2, o2 + (i * 2 + 1), none⟩) hlb).trans (hcell 1 _ rfl)
            have HE_v := hide hh_v
            have sz_v := hB2.size
            have lt_b2 : b2 < wr.heap.size := (by have := hB2.size; omega)
            have lw_b2 := hlb
            have i0_v : (0 : Int) ≤ (i : Int) := by omega
            have i1_v : (i : Int) < (K : Int) := by omega
            clear hcell hlb hh_v
            obtain rfl : v = ⟨p.id, t⟩ := by have := HE_v.out; rw [HSK.out] at this; injection this with this; exact this.symm
            simp only at v0 v1
            have s1 := (hB2.cell (p := ⟨sb, 1, none⟩) hsX).trans HE1.out
            have hsbr : sb < wr.heap.size := by omega
            have r1 := HYM.out; have r2 := HYT.out
            have r3 : ¬ l = 0 := by omega
            obtain ⟨X3, rfl⟩ : ∃ W : World, W = wr := ⟨_, rfl⟩
            have hB3 := hide hB2
            have hsX3 := hB2.size
            have HV0 := hide v0
            by_cases hi0 : 0 < i
            obtain ⟨i', hi'⟩ : ∃ i', i = i' + 1 := ⟨i - 1, by omega⟩
            obtain ⟨⟨p', t'⟩, hy'⟩ : ∃ y, L[i']? = some y := ⟨_, List.getElem?_eq_getElem (by rw [HKL.out]; omega)⟩
            have hlt' := (HLt.out i' i _ _ hy' HY.out (by omega)).1
            simp only at hlt'
            have HSK' := hide (show (servedAll es os l 600)[i']? = some ⟨p'.id, t'⟩ by rw [HW.out, List.getElem?_map, hy']; rfl)
            have hi1 : i' < K := by omega
            obtain ⟨v', b', o', hh_v', hbo, hlb, hcell⟩ := HSX.out.get svF_len (by omega) (show i' < K by omega)
            obtain ⟨rfl, rfl⟩ : b2 = b' ∧ o2 = o' := by injection hbo with hbo; injection hbo with hb1 hb2; exact ⟨hb1, hb2⟩
            clear hbo
            have u0 : X3.cell? ⟨b2, o2 + i' * 2, none⟩ = some (.int .i64 v'.id) := (hB2.cell (p := ⟨b2, o2 + (i' * 2 + 0), none⟩) hlb).trans (hcell 0 _ rfl)
            have u1 : X3.cell? ⟨b2, o2 + i' * 2 + 1, none⟩ = some (.int .i64 v'.tm) := (hB2.cell (p := ⟨b2, o2 + (i' * 2 + 1), none⟩) hlb).trans (hcell 1 _ rfl)
            have HE_v' := hide hh_v'
            have sz_v' := hB2.size
            have lt_b2 : b2 < X3.heap.size := (by have := hB2.size; omega)
            have i0_v' : (0 : Int) ≤ (i' : Int) := by omega
            have i1_v' : (i' : Int) < (K : Int) := by omega
            clear hcell hlb hh_v'
            obtain rfl : v' = ⟨p'.id, t'⟩ := by have := HE_v'.out; rw [HSK'.out] at this; injection this with this; exact this.symm
            simp only at u0 u1
            have hw1 : IntKind.i64.wrap ((i : Int) - 1) = (i' : Int) := by rw [hi']; exact (IntWalk.i64_in _ (by omega)).trans (by omega)
            have hw2 : (i : Int) - 1 = (i' : Int) := by omega
            have hi2 : (0 : Int) < (i : Int) := by omega
            have g2 : decide (t ≤ t') = false := by simpa using hlt'
            clear hy' hi' hB2 hB
            go_wp2_with fail
            go_quiet (fail)
            rotate_left
            have hi2 : decide ((0 : Int) < (i : Int)) = false := by simp; omega
            have hi3 : decide (0 < i) = false := by simp; omega
            clear hB2 hB
            go_wp2_with fail
            go_quiet (fail)
            all_goals
              go_wp2_with fail
              go_loopw [11] (fun vk wr => ∃ k : Nat, k ≤ i ∧ vk = .int .i64 k ∧ Below X3.heap.size X3 wr) (fun vk _ => i - (intOf vk).toNat)
              case atStart => exact ⟨0, by omega, rfl, bdrawn (Below.refl _ _) _⟩
              case round =>
                obtain ⟨j, hj, rfl, hBj⟩ := hrel
                by_cases hji : j < i
                · obtain ⟨⟨pj, tj⟩, hyj⟩ : ∃ y, L[j]? = some y := ⟨_, List.getElem?_eq_getElem (by rw [HKL.out]; omega)⟩
                  have hne := (HLt.out j i _ _ hyj HY.out (by omega)).2
                  simp only at hne
                  have hne2 : (pj.id == p.id) = false := by simpa using hne
                  have HSJ := hide (show (servedAll es os l 600)[j]? = some ⟨pj.id, tj⟩ by rw [HW.out, List.getElem?_map, hyj]; rfl)
                  have hjK : j < K := by omega
                  have hB5 := bthen hB3.out hBj (by omega)
                  obtain ⟨vi, b', o', hh_vi, hbo, hlb, hcell⟩ := HSX.out.get svF_len (by omega) (show i < K by omega)
                  obtain ⟨rfl, rfl⟩ : b2 = b' ∧ o2 = o' := by injection hbo with hbo; injection hbo with hb1 hb2; exact ⟨hb1, hb2⟩
                  clear hbo
                  have c0 : wr.cell? ⟨b2, o2 + i * 2, none⟩ = some (.int .i64 vi.id) := (hB5.cell (p := ⟨b2, o2 + (i * 2 + 0), none⟩) hlb).trans (hcell 0 _ rfl)
                  have c1 : wr.cell? ⟨b2, o2 + i * 2 + 1, none⟩ = some (.int .i64 vi.tm) := (hB5.cell (p := ⟨b2, o2 + (i * 2 + 1), none⟩) hlb).trans (hcell 1 _ rfl)
                  have HE_vi := hide hh_vi
                  have sz_vi := hB5.size
                  have lt_b2 : b2 < wr.heap.size := (by have := hB5.size; omega)
                  have i0_vi : (0 : Int) ≤ (i : Int) := by omega
                  have i1_vi : (i : Int) < (K : Int) := by omega
                  clear hcell hlb hh_vi
                  obtain ⟨vj, b', o', hh_vj, hbo, hlb, hcell⟩ := HSX.out.get svF_len (by omega) (show j < K by omega)
                  obtain ⟨rfl, rfl⟩ : b2 = b' ∧ o2 = o' := by injection hbo with hbo; injection hbo with hb1 hb2; exact ⟨hb1, hb2⟩
                  clear hbo
                  have d0 : wr.cell? ⟨b2, o2 + j * 2, none⟩ = some (.int .i64 vj.id) := (hB5.cell (p := ⟨b2, o2 + (j * 2 + 0), none⟩) hlb).trans (hcell 0 _ rfl)
                  have d1 : wr.cell? ⟨b2, o2 + j * 2 + 1, none⟩ = some (.int .i64 vj.tm) := (hB5.cell (p := ⟨b2, o2 + (j * 2 + 1), none⟩) hlb).trans (hcell 1 _ rfl)
                  have HE_vj := hide hh_vj
                  have sz_vj := hB5.size
                  have lt_b2 : b2 < wr.heap.size := (by have := hB5.size; omega)
                  have i0_vj : (0 : Int) ≤ (j : Int) := by omega
                  have i1_vj : (j : Int) < (K : Int) := by omega
                  clear hcell hlb hh_vj
                  obtain rfl : vi = ⟨p.id, t⟩ := by have := HE_vi.out; rw [HSK.out] at this; injection this with this; exact this.symm
                  obtain rfl : vj = ⟨pj.id, tj⟩ := by have := HE_vj.out; rw [HSJ.out] at this; injection this with this; exact this.symm
                  simp only at c0 c1 d0 d1
                  have j0 : (j : Int) < (i : Int) := by omega
                  clear hyj hne
                  go_wp2_with fail
                  go_quiet (fail)
                  go_wp2_with fail
                  go_roundw
                  case rel => exact ⟨j + 1, by omega, by go_num, bdrawn hBj _⟩
                  case measure => simp [intOf]; omega
                · go_wp2_with fail
                  go_roundw
                  case rel => exact ⟨i + 1, by omega, by go_num, bthen hB3.out hBj (by omega)⟩
                  case measure => simp [intOf]; omega
      · have e0 := (hB.cell (p := ⟨sb, 0, none⟩) hsX).trans HE0.out
        have e1 := (hB.cell (p := ⟨sb, 1, none⟩) hsX).trans HE1.out
        have hsr := hB.size
        have hsbr : sb < wr.heap.size := by omega
        go_wp2_with fail
        refine (impl_SlotsOk_is _ _ _ os l true HOK.out _ (HIX.out.below hB (Nat.le_refl _)) hs1).mono ?_
        rintro e w1 ⟨rfl, h1⟩
        have s1 := h1.size
        try simp only [World.size_alloc, World.size_setCell, World.size_drew, World.heap_drewN] at s1
        have B1_1 := h1
        have z1_0 : sb < w1.heap.size := by omega
        have q1_0 := fun o => (bcell B1_1).1 (sb) o (by go_size)
        have f1_0 := fun o => (bcell B1_1).2 (sb) o (by go_size)
        have H1 : Below wr.heap.size wr w1 := bthen (by repeat' (first | (with_reducible exact Below.refl _ _) | (with_reducible assumption) | (with_reducible refine bdrawn ?_ _) | (with_reducible refine Below.alloc ?_ ?_ _) | (with_reducible refine Below.drew ?_) | (with_reducible refine Below.setCell ?_ ?_ _) | go_size)) h1 (by go_size)
        have C1 := (bcell H1).1; have F1 := (bcell H1).2
        go_wp2_with fail
        refine (spec_ServeSlots _ _ _ os l 600 _ _ _ es K _ ((HIX.out.below hB (Nat.le_refl _)).below H1 (Nat.le_refl _)) hs1 ((HEX.out.below hB (Nat.le_refl _)).below H1 (Nat.le_refl _)) HK.out).mono ?_
        rintro e w2 ⟨ar, cr, rfl, o2, h2⟩
        have s2 := h2.size
        try simp only [World.size_alloc, World.size_setCell, World.size_drew, World.heap_drewN] at s2
        have B2_1 := bnext (by first | (with_reducible exact B1_1) | exact (bgrow B1_1 (by go_size) (by repeat' (first | (with_reducible exact Below.refl _ _) | (with_reducible assumption) | (with_reducible refine bdrawn ?_ _) | (with_reducible refine Below.alloc ?_ ?_ _) | (with_reducible refine Below.drew ?_) | (with_reducible refine Below.setCell ?_ ?_ _) | go_size)))) h2 (by go_size)
        have z2_0 : sb < w2.heap.size := by omega
        have q2_0 := fun o => (bcell B2_1).1 (sb) o (by go_size)
        have f2_0 := fun o => (bcell B2_1).2 (sb) o (by go_size)
        have H2 : Below wr.heap.size wr w2 := bthen (by repeat' (first | (with_reducible exact Below.refl _ _) | (with_reducible assumption) | (with_reducible refine bdrawn ?_ _) | (with_reducible refine Below.alloc ?_ ?_ _) | (with_reducible refine Below.drew ?_) | (with_reducible refine Below.setCell ?_ ?_ _) | go_size)) h2 (by go_size)
        have C2 := (bcell H2).1; have F2 := (bcell H2).2
        go_wp2_with fail
        go_ret
        exact ⟨rfl, bthen HX.out (bthen hB H2 (by omega)) (by omega)⟩
  · go_enter Try.func7, Try.ntmps7
    go_wp2_with fail
    refine (laws_big_yes a n c _ hm hc hs).mono ?_
    rintro e w' ⟨rfl, rfl⟩
    go_wp2_with fail
    go_ret
    exact ⟨rfl, by go_grown⟩

set_option maxRecDepth 100000 in
theorem FnServed_lifted (os : Os) (started : os.Started) (H : Type) (enc : TypeId × Value → H) :
    ReturnsInHanded {} Try.checked os 7 .any (Rows.fnServedSpec.pre6 enc Try.prog Try.f7 Rows.fnServedRow.domain false) (Rows.fnServedSpec.post enc Try.prog Try.f7 false true false false) := by
  refine returnsInHanded_of_change (C := Try.checked) try_own started (by kernel_rfl) Try.func7
    (ChangeSpec.witness6 (enc := enc) (C := Try.checked) false ⟨#[], #[.slice none 0 0], []⟩ 8 (by kernel_rfl) (by kernel_rfl) (by kernel_rfl) (by kernel_rfl)) ?_
  intro W base args ds gs before hval0 hW _ _
  have hval : ∀ (j : Nat) t v, Try.f7.params[j]? = some t → args[j]? = some v → Value.okWide Try.prog W .any base t v := hval0
  have hW' := hW
  obtain ⟨p, q, hA0, hV, rfl, hfz, hnd⟩ := hW
  have hA : DataW.TrodAll enc Try.prog W 0 (fun _ => true) true Try.f7.params.toList args.toList ds p := hA0
  rw [Try.params7] at hA hval
  obtain ⟨v0, vs0, d0, ds0, p0, q0, hargs, rfl, rfl, h0, r0⟩ := trodAll_cons hA
  obtain ⟨rfl, rfl, rfl⟩ := trodAll_nil r0
  obtain rfl : args = #[v0] := by cases args; simp_all
  obtain ⟨rfl, rfl⟩ := trodVars_none hV
  have k0 := h0
  have lt0 : ∀ x ∈ p0, x.block < W.heap.size := by obtain ⟨m, hm⟩ := k0; exact DataW.trod_lt m _ _ _ hm
  obtain ⟨b_x0, m_x0, l_x0, rfl⟩ := okWide_slice Try.underlying22 (hval 0 22 v0 rfl rfl)
  obtain ⟨fu0, h0⟩ := h0
  obtain ⟨a_x0, n_x0, c_x0, x0, e_x0, w_x0⟩ := isBytes_of Try.underlying22 Try.underlying5 (by kernel_rfl) h0
  simp only [Value.cells, List.cons.injEq, and_true] at e_x0
  obtain ⟨q1, q2, q3⟩ : b_x0 = a_x0 ∧ m_x0 = n_x0 ∧ l_x0 = c_x0 := by simpa using e_x0
  replace q1 := q1.symm; replace q2 := q2.symm; replace q3 := q3.symm; subst q1 q2 q3
  clear hA0 hval0
  refine (FnServed_walk a_x0 n_x0 c_x0 x0 W w_x0).mono fun e W' ⟨he, bel⟩ => ?_
  subst he
  exact ⟨_, rfl, _, _, _, [], _, [], hW', trodAll_mk1 (shut_bool Try.underlying4 _), (trodAll_cons_mk (Below.trod try_laidOut (by kernel_rfl) (of_decide_eq_true (by kernel_rfl)) k0 bel lt0) trodAll_mk0), rfl, bel.frame _, fun h => by cases h⟩

theorem FnServed_holds : Rows.FnServedSaid :=
  OpenClaim.holds_of_wide 7 Try.f7 rfl rfl rfl rfl rfl rfl rfl ⟨rfl, rfl, rfl, rfl, rfl⟩ rfl rfl rfl rfl rfl (by kernel_rfl) Try.func7 (by kernel_rfl)
    (of_decide_eq_true (by kernel_rfl)) (by unfold Func.isWrapper; rw [if_neg (of_decide_eq_false (by kernel_rfl))]; exact ⟨rfl, rfl⟩)
    (fun os started H enc _ => FnServed_lifted os started H enc)
#print axioms FnServed_holds
end Go.Proofs.Ytahfbhfmhccgoaa
