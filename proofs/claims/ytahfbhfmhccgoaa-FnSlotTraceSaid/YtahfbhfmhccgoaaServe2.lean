/- The program's order of slots. -/
import Derived.Test.YtahfbhfmhccgoaaServe1
import Derived.Test.YtahfbhfmhccgoaaBools
import Derived.Test.YtahfbhfmhccgoaaPlaces
import Derived.Test.YtahfbhfmhccgoaaNest
set_option linter.unusedSimpArgs false
set_option linter.unusedVariables false
namespace Go.Proofs.Ytahfbhfmhccgoaa
open Go.RowKit Go.ChangeShapes Go.WideShapes Go.ChangeAt Go.Joins Go.Deep
open Go.ChangeMaps (open_string shut_string)
theorem info_boolX : (Try.prog.info? 4).map (fun i => (i.zero, i.size, i.bytes)) = some (some (.bool false), 1, 1) := by kernel_rfl
def GotOrder (w : World) (m : Nat) (xs ys : List Int) (e : Ending) (w' : World) : Prop :=
  ∃ a c a' c', e = .returned (.tuple #[.slice a m c, .slice a' m c']) ∧ w'.ownsRow w.heap.size 3 1 (.slice a m c) m (xs.map (.int .i64)) ∧ w'.ownsRow w.heap.size 3 1 (.slice a' m c') m (ys.map (.int .i64)) ∧ Below w.heap.size w w'
theorem impl_OwnerAt_is (a : Option Addr) (n c : Nat) (zs : List Int) (l t o : Int) (h : ownerAt zs l t = o) (w : World) (htb : t ≤ 9223372036854775807) (ha : IsInts .i64 w a n c zs) (hs : n ≤ 1048576) :
    Calls Try.prog 30 #[.agg #[.slice a n c, .int .i64 l], .int .i64 t] w fun e w' => e = .returned (.int .i64 o) ∧ Below w.heap.size w w' := by subst h; exact impl_OwnerAt a n c zs l t w htb ha hs
theorem befAt_of {rs : List Rq} {m : Nat} {q r : Rq} (h : rs[m]? = some q) : befAt rs (m : Int) r = befB r q := by unfold befAt; rw [Int.toNat_natCast, h]
set_option maxRecDepth 100000 in
set_option maxHeartbeats 8000000 in
theorem impl_slotOrder (a1 : Option Addr) (n1 c1 : Nat) (zs : List Int) (l u : Int) (a : Option Addr) (n c : Nat) (rs : List Rq) (M : Nat) (w : World) (hz : IsInts .i64 w a1 n1 c1 zs) (hs1 : n1 ≤ 1048576) (ha : IsStructs rqF 6 w a n c rs) (hok : servable zs l u n = true) (hM : (whichS rs zs l (nSlots u l)).length = M) :
    Calls Try.prog 84 #[.agg #[.slice a1 n1 c1, .int .i64 l], .int .i64 u, .slice a n c] w (GotOrder w M (whichS rs zs l (nSlots u l)) (beginS rs zs l (nSlots u l))) := by
  obtain ⟨i0_int, hi_int, hz0_int, hz1_int, hz2_int⟩ := info_parts info_int
  obtain ⟨i0_b, hi_b, hz0_b, hz1_b, hz2_b⟩ := info_parts info_boolX
  have HZ := hide hz; have HA := hide ha; have HM := hide hM
  obtain ⟨hok1, hu0, hu1, hn60, huq⟩ := servable_bd hok
  obtain ⟨_, hb1, hb2, hb3, hb4⟩ := slotsOkB_bd hok1
  have HL := hide ha.1
  have hc := ha.2.1; have hcm : c ≤ 9223372036854775807 := ha.2.2.1
  have hnl := nSlots_le (u := u) (l := l) hb3 hu0 huq
  have hN1 := hnl.1; have hN2 := hnl.2
  have HIFF := hide (fun j => nSlots_iff (u := u) (l := l) (by omega) j)
  generalize nSlots u l = N at *
  clear hz ha hM hok hok1 huq hnl hb1 hb2
  go_enter Try.func84, Try.ntmps84
  go_wp2_with (at_make; refine wpList_make_full _ rfl _ _ 26 rfl (w.heap.size + 1) 4 i0_b (.bool false) 1 Try.underlying26 hi_b hz0_b hz1_b _ _ _ _ n rfl rfl rfl rfl (by rw [hz2_b]; omega) (by unfold maxLen; omega) (by simp) ?_; intro w0 hown hg; have hb0 : Below w.heap.size w w0 := ((Below.refl _ _).alloc (Nat.le_refl _) _).grown hg (by simp) (fun k h => by cases h))
  simp only [World.size_alloc] at hown
  have hsz0 : w.heap.size + 1 < w0.heap.size := (hown.lt (w.heap.size + 1) rfl).2
  have HE := hide ((hg.block w.heap.size (by simp) (by simp)).trans (alloc_at w (.cells #[.slice a1 n1 c1, .int .i64 l] 48) _ rfl))
  have HS0 := hide (show w0.ownsRow (w.heap.size + 1) 4 1 (.slice (some ⟨w.heap.size + 1, 0, none⟩) n n) n ((runS rs zs l 0).1.map .bool) by
    have := hown
    rw [Nat.mul_one, show (Value.bool false).cells = #[.bool false] from rfl, toList_madeCells_one] at this
    simpa [runS, HL.out] using this)
  clear hown hg
  go_loopw [9, 10, 11] (fun vw vb v wr => ∃ (j m gw gb cw cb : Nat) (x : Int), j ≤ N ∧ v = .int .i64 x ∧ Hid (x = (j : Int) * l) ∧ 0 ≤ x ∧ x ≤ 1001000 ∧ m ≤ j ∧ Hid ((whichS rs zs l j).length = m) ∧ vw = .slice (some ⟨gw, 0, none⟩) m cw ∧ vb = .slice (some ⟨gb, 0, none⟩) m cb ∧ ¬ gw = gb ∧ Hid (wr.ownsRow (w.heap.size + 2) 3 1 (.slice (some ⟨gw, 0, none⟩) m cw) m ((whichS rs zs l j).map (.int .i64))) ∧ Hid (wr.ownsRow (w.heap.size + 2) 3 1 (.slice (some ⟨gb, 0, none⟩) m cb) m ((beginS rs zs l j).map (.int .i64))) ∧ Hid (wr.ownsRow (w.heap.size + 1) 4 1 (.slice (some ⟨w.heap.size + 1, 0, none⟩) n n) n ((runS rs zs l j).1.map .bool)) ∧ Below w.heap.size w wr ∧ w.heap.size + 1 < wr.heap.size ∧ Hid (wr.heap[w.heap.size]? = some (.cells #[.slice a1 n1 c1, .int .i64 l] 48 (0, 0)))) (fun _ _ v _ => (u + 2000 - intOf v).toNat)
  case atStart => exact ⟨0, 0, w0.heap.size, w0.heap.size + 1, _, _, 0, by omega, rfl, hide (by simp), by omega, by omega, by omega, hide rfl, rfl, rfl, by omega, hide ((own_made_at rfl (by omega)).alloc _), hide (own_made_at (by simp) (by simp; omega)), hide ((HS0.out.alloc _).alloc _), (by repeat' (first | (with_reducible exact Below.refl _ _) | (with_reducible assumption) | (with_reducible refine bdrawn ?_ _) | (with_reducible refine Below.alloc ?_ ?_ _) | (with_reducible refine Below.drew ?_) | (with_reducible refine Below.setCell ?_ ?_ _) | go_size)), by simp; omega, hide (by rw [alloc_lt _ _ _ (by simp; omega), alloc_lt _ _ _ (by omega)]; exact HE.out)⟩
  case round =>
    clear HS0 HE hb0
    obtain ⟨j, m, gw, gb, cw, cb, x, hj, rfl, HX, hx0, hx1, hmj, Hm, rfl, rfl, hgg, HW, HG, HS, hB, hsz, HE⟩ := hrel
    have cc0 := cell_blk HE.out 0; have cc1 := cell_blk HE.out 1
    have hsw : w.heap.size < wr.heap.size := by omega
    have HBr := hide hB
    clear hB
    by_cases hlt : x < u
    · have hjN : j < N := (HIFF.out j).1 (by rw [← HX.out]; exact hlt)
      obtain ⟨o, ho⟩ : ∃ o, ownerAt zs l x = o := ⟨_, rfl⟩
      have HO := hide ho; clear ho
      go_wp2_with fail
      refine (impl_OwnerAt_is _ _ _ zs l x o HO.out _ (by omega) (HZ.out.below HBr.out (Nat.le_refl _)) hs1).mono ?_
      rintro e X ⟨rfl, hX⟩
      have hsX := hX.size
      have HBX := hide (bthen HBr.out hX (by omega))
      have HWX := hide (own_below HW.out hX (fun q hq => (HW.out.lt q hq).2))
      have HGX := hide (own_below HG.out hX (fun q hq => (HG.out.lt q hq).2))
      have HSX := hide (own_below HS.out hX (fun q hq => (HS.out.lt q hq).2))
      have HEX := hide ((hX.block _ hsw).trans HE.out)
      have HAX := hide (HA.out.below HBX.out (Nat.le_refl _))
      have hsX1 : w.heap.size + 1 < X.heap.size := by omega
      obtain ⟨ds, hds⟩ : ∃ ds, (runS rs zs l j).1 = ds := ⟨_, rfl⟩
      have HDL := hide (show ds.length = n by rw [← hds, (runS_len rs zs l j).1, HL.out])
      rw [hds] at HSX
      have HD := hide hds
      clear hds hX HW HG HS HE cc0 cc1 HBr
      go_wp2_with fail
      go_loopw [13, 33] (fun vp vi wr => ∃ (i : Nat) (p : Int), i ≤ n ∧ vi = .int .i64 i ∧ vp = .int .i64 p ∧ Hid (pickTo rs ds o x i = p) ∧ -1 ≤ p ∧ p < (i : Int) ∧ Below X.heap.size X wr) (fun _ vi _ => n - (intOf vi).toNat)
      case atStart => exact ⟨0, -1, by omega, rfl, rfl, hide rfl, by omega, by omega, Below.refl _ _⟩
      case round =>
        obtain ⟨i, p, hi, rfl, rfl, HP, hp0, hp1, hBq⟩ := hrel
        by_cases hin : i < n
        · obtain ⟨r, b1, o1, hh_r, rfl, hlb, hcell⟩ := HAX.out.get rqF_len (by omega) (show i < n by omega)
          have e0 : wr.cell? ⟨b1, o1 + i * 6, none⟩ = some (.int .i64 r.id) := (hBq.cell (p := ⟨b1, o1 + (i * 6 + 0), none⟩) hlb).trans (hcell 0 _ rfl)
          have e1 : wr.cell? ⟨b1, o1 + i * 6 + 1, none⟩ = some (.int .i64 r.tenant) := (hBq.cell (p := ⟨b1, o1 + (i * 6 + 1), none⟩) hlb).trans (hcell 1 _ rfl)
          have e2 : wr.cell? ⟨b1, o1 + i * 6 + 2, none⟩ = some (.int .i64 r.line) := (hBq.cell (p := ⟨b1, o1 + (i * 6 + 2), none⟩) hlb).trans (hcell 2 _ rfl)
          have e3 : wr.cell? ⟨b1, o1 + i * 6 + 3, none⟩ = some (.bool r.write) := (hBq.cell (p := ⟨b1, o1 + (i * 6 + 3), none⟩) hlb).trans (hcell 3 _ rfl)
          have e4 : wr.cell? ⟨b1, o1 + i * 6 + 4, none⟩ = some (.int .i64 r.data) := (hBq.cell (p := ⟨b1, o1 + (i * 6 + 4), none⟩) hlb).trans (hcell 4 _ rfl)
          have e5 : wr.cell? ⟨b1, o1 + i * 6 + 5, none⟩ = some (.int .i64 r.tm) := (hBq.cell (p := ⟨b1, o1 + (i * 6 + 5), none⟩) hlb).trans (hcell 5 _ rfl)
          have HE_r := hide hh_r
          have sz_r := hBq.size
          have lt_b1 : b1 < wr.heap.size := (by have := hBq.size; omega)
          have lw_b1 := hlb
          have i0_r : (0 : Int) ≤ (i : Int) := by omega
          have i1_r : (i : Int) < (n : Int) := by omega
          clear hcell hlb hh_r
          obtain ⟨d, hd⟩ : ∃ d, ds[i]? = some d := ⟨_, List.getElem?_eq_getElem (by rw [HDL.out]; omega)⟩
          have s0 : wr.cell? ⟨w.heap.size + 1, i, none⟩ = some (.bool d) := (hBq.cell (p := ⟨w.heap.size + 1, i, none⟩) hsX1).trans ((HSX.out.cellAt i (by omega)).trans (by rw [List.getElem?_map, hd]; rfl))
          have Hd := hide hd
          clear hd
          have hwq : w.heap.size + 1 < wr.heap.size := by omega
          cases d
          · cases q1 : (r.tenant == o)
            · go_wp2_with fail
              go_quiet (fail)
              go_wp2_with fail
              go_roundw
              case rel => exact ⟨i + 1, p, by omega, by go_num, rfl, hide (pick_no HP.out HE_r.out Hd.out (by simp [canB, q1])), by omega, by omega, (by repeat' (first | (with_reducible exact Below.refl _ _) | (with_reducible assumption) | (with_reducible refine bdrawn ?_ _) | (with_reducible refine Below.alloc ?_ ?_ _) | (with_reducible refine Below.drew ?_) | (with_reducible refine Below.setCell ?_ ?_ _) | go_size))⟩
              case measure => simp [intOf]; omega
            · by_cases q2 : r.tm ≤ x
              · have HC := hide (show canB o x false r = true by simp [canB, q1, q2])
                by_cases q3 : p < 0
                · go_wp2_with fail
                  go_quiet (fail)
                  go_wp2_with fail
                  go_roundw
                  case rel => exact ⟨i + 1, i, by omega, by go_num, rfl, hide (pick_yes HP.out HE_r.out Hd.out HC.out (.inl q3)), by omega, by omega, (by repeat' (first | (with_reducible exact Below.refl _ _) | (with_reducible assumption) | (with_reducible refine bdrawn ?_ _) | (with_reducible refine Below.alloc ?_ ?_ _) | (with_reducible refine Below.drew ?_) | (with_reducible refine Below.setCell ?_ ?_ _) | go_size))⟩
                  case measure => simp [intOf]; omega
                · obtain ⟨m', rfl⟩ := Int.eq_ofNat_of_zero_le (show 0 ≤ p by omega)
                  obtain ⟨f, b', o', hh_f, hbo, hlb, hcell⟩ := HAX.out.get rqF_len (by omega) (show m' < n by omega)
                  obtain ⟨rfl, rfl⟩ : b1 = b' ∧ o1 = o' := by injection hbo with hbo; injection hbo with hb1 hb2; exact ⟨hb1, hb2⟩
                  clear hbo
                  have k0 : wr.cell? ⟨b1, o1 + m' * 6, none⟩ = some (.int .i64 f.id) := (hBq.cell (p := ⟨b1, o1 + (m' * 6 + 0), none⟩) hlb).trans (hcell 0 _ rfl)
                  have k1 : wr.cell? ⟨b1, o1 + m' * 6 + 1, none⟩ = some (.int .i64 f.tenant) := (hBq.cell (p := ⟨b1, o1 + (m' * 6 + 1), none⟩) hlb).trans (hcell 1 _ rfl)
                  have k2 : wr.cell? ⟨b1, o1 + m' * 6 + 2, none⟩ = some (.int .i64 f.line) := (hBq.cell (p := ⟨b1, o1 + (m' * 6 + 2), none⟩) hlb).trans (hcell 2 _ rfl)
                  have k3 : wr.cell? ⟨b1, o1 + m' * 6 + 3, none⟩ = some (.bool f.write) := (hBq.cell (p := ⟨b1, o1 + (m' * 6 + 3), none⟩) hlb).trans (hcell 3 _ rfl)
                  have k4 : wr.cell? ⟨b1, o1 + m' * 6 + 4, none⟩ = some (.int .i64 f.data) := (hBq.cell (p := ⟨b1, o1 + (m' * 6 + 4), none⟩) hlb).trans (hcell 4 _ rfl)
                  have k5 : wr.cell? ⟨b1, o1 + m' * 6 + 5, none⟩ = some (.int .i64 f.tm) := (hBq.cell (p := ⟨b1, o1 + (m' * 6 + 5), none⟩) hlb).trans (hcell 5 _ rfl)
                  have HE_f := hide hh_f
                  have sz_f := hBq.size
                  have lt_b1 : b1 < wr.heap.size := (by have := hBq.size; omega)
                  have i0_f : (0 : Int) ≤ (m' : Int) := by omega
                  have i1_f : (m' : Int) < (n : Int) := by omega
                  clear hcell hlb hh_f
                  have HBA := hide (befAt_of (r := r) HE_f.out)
                  obtain ⟨v, hv⟩ : ∃ v, befB r f = v := ⟨_, rfl⟩
                  have Hv := hide hv
                  clear hv
                  have hl9 : b1 < wr.heap.size := by omega
                  cases v
                  · skip
                    go_wp2_with fail
                    go_region_held3 (fun v => v.cell? ⟨w.heap.size + 1, i, none⟩ = some (.bool false) ∧ v.cell? ⟨wr.heap.size, 0, none⟩ = some (.int .i64 r.id) ∧ v.cell? ⟨wr.heap.size, 1, none⟩ = some (.int .i64 r.tenant) ∧ v.cell? ⟨wr.heap.size, 2, none⟩ = some (.int .i64 r.line) ∧ v.cell? ⟨wr.heap.size, 3, none⟩ = some (.bool r.write) ∧ v.cell? ⟨wr.heap.size, 4, none⟩ = some (.int .i64 r.data) ∧ v.cell? ⟨wr.heap.size, 5, none⟩ = some (.int .i64 r.tm) ∧ v.cell? ⟨b1, o1 + m' * 6, none⟩ = some (.int .i64 f.id) ∧ v.cell? ⟨b1, o1 + m' * 6 + 1, none⟩ = some (.int .i64 f.tenant) ∧ v.cell? ⟨b1, o1 + m' * 6 + 2, none⟩ = some (.int .i64 f.line) ∧ v.cell? ⟨b1, o1 + m' * 6 + 3, none⟩ = some (.bool f.write) ∧ v.cell? ⟨b1, o1 + m' * 6 + 4, none⟩ = some (.int .i64 f.data) ∧ v.cell? ⟨b1, o1 + m' * 6 + 5, none⟩ = some (.int .i64 f.tm)) (go_keep) (first | (go_at_call 123; refine (impl_arrivesBefore_is r f _ Hv.out _).mono ?_; rintro e w1 ⟨rfl, h1⟩; (try (have hz0 : wr.heap.size < w1.heap.size := (by have := h1.size; (try simp at this); omega); have hl0 := (fun o => (bcell h1).1 (wr.heap.size) o (by go_size)); have hv0 := (fun o => (bcell h1).2 (wr.heap.size) o (by go_size)))); (try (have hz1 : wr.heap.size + 1 < w1.heap.size := (by have := h1.size; (try simp at this); omega); have hl1 := (fun o => (bcell h1).1 (wr.heap.size + 1) o (by go_size)); have hv1 := (fun o => (bcell h1).2 (wr.heap.size + 1) o (by go_size)))); replace h1 : Below wr.heap.size wr w1 := bthen (by go_grown) h1 (by first | go_size | omega); obtain ⟨hc1, hf1⟩ := bcell h1; have hB2 : Below X.heap.size X w1 := bthen hBq h1 (by omega)))
                    go_wp2_with fail
                    go_roundw
                    case rel => exact ⟨i + 1, m', by omega, by go_num, rfl, hide (pick_keep HP.out HE_r.out Hd.out (by omega) (by rw [HBA.out, Hv.out])), by omega, by omega, by assumption⟩
                    case measure => simp [intOf]; omega
                  · skip
                    go_wp2_with fail
                    go_region_held3 (fun v => v.cell? ⟨w.heap.size + 1, i, none⟩ = some (.bool false) ∧ v.cell? ⟨wr.heap.size, 0, none⟩ = some (.int .i64 r.id) ∧ v.cell? ⟨wr.heap.size, 1, none⟩ = some (.int .i64 r.tenant) ∧ v.cell? ⟨wr.heap.size, 2, none⟩ = some (.int .i64 r.line) ∧ v.cell? ⟨wr.heap.size, 3, none⟩ = some (.bool r.write) ∧ v.cell? ⟨wr.heap.size, 4, none⟩ = some (.int .i64 r.data) ∧ v.cell? ⟨wr.heap.size, 5, none⟩ = some (.int .i64 r.tm) ∧ v.cell? ⟨b1, o1 + m' * 6, none⟩ = some (.int .i64 f.id) ∧ v.cell? ⟨b1, o1 + m' * 6 + 1, none⟩ = some (.int .i64 f.tenant) ∧ v.cell? ⟨b1, o1 + m' * 6 + 2, none⟩ = some (.int .i64 f.line) ∧ v.cell? ⟨b1, o1 + m' * 6 + 3, none⟩ = some (.bool f.write) ∧ v.cell? ⟨b1, o1 + m' * 6 + 4, none⟩ = some (.int .i64 f.data) ∧ v.cell? ⟨b1, o1 + m' * 6 + 5, none⟩ = some (.int .i64 f.tm)) (go_keep) (first | (go_at_call 123; refine (impl_arrivesBefore_is r f _ Hv.out _).mono ?_; rintro e w1 ⟨rfl, h1⟩; (try (have hz0 : wr.heap.size < w1.heap.size := (by have := h1.size; (try simp at this); omega); have hl0 := (fun o => (bcell h1).1 (wr.heap.size) o (by go_size)); have hv0 := (fun o => (bcell h1).2 (wr.heap.size) o (by go_size)))); (try (have hz1 : wr.heap.size + 1 < w1.heap.size := (by have := h1.size; (try simp at this); omega); have hl1 := (fun o => (bcell h1).1 (wr.heap.size + 1) o (by go_size)); have hv1 := (fun o => (bcell h1).2 (wr.heap.size + 1) o (by go_size)))); replace h1 : Below wr.heap.size wr w1 := bthen (by go_grown) h1 (by first | go_size | omega); obtain ⟨hc1, hf1⟩ := bcell h1; have hB2 : Below X.heap.size X w1 := bthen hBq h1 (by omega)))
                    go_wp2_with fail
                    go_roundw
                    case rel => exact ⟨i + 1, i, by omega, by go_num, rfl, hide (pick_yes HP.out HE_r.out Hd.out HC.out (.inr (by rw [HBA.out, Hv.out]))), by omega, by omega, by assumption⟩
                    case measure => simp [intOf]; omega
              · have q3 : decide (r.tm ≤ x) = false := by simpa using q2
                go_wp2_with fail
                go_quiet (fail)
                go_wp2_with fail
                go_roundw
                case rel => exact ⟨i + 1, p, by omega, by go_num, rfl, hide (pick_no HP.out HE_r.out Hd.out (by simp [canB, q1, q3])), by omega, by omega, (by repeat' (first | (with_reducible exact Below.refl _ _) | (with_reducible assumption) | (with_reducible refine bdrawn ?_ _) | (with_reducible refine Below.alloc ?_ ?_ _) | (with_reducible refine Below.drew ?_) | (with_reducible refine Below.setCell ?_ ?_ _) | go_size))⟩
                case measure => simp [intOf]; omega
          · go_wp2_with fail
            go_quiet (fail)
            go_wp2_with fail
            go_roundw
            case rel => exact ⟨i + 1, p, by omega, by go_num, rfl, hide (pick_no HP.out HE_r.out Hd.out (by simp [canB])), by omega, by omega, (by repeat' (first | (with_reducible exact Below.refl _ _) | (with_reducible assumption) | (with_reducible refine bdrawn ?_ _) | (with_reducible refine Below.alloc ?_ ?_ _) | (with_reducible refine Below.drew ?_) | (with_reducible refine Below.setCell ?_ ?_ _) | go_size))⟩
            case measure => simp [intOf]; omega
        · obtain rfl : i = n := by omega
          have HPS := hide (show pickS rs zs l j = p by unfold pickS; rw [HD.out, ← HX.out, HO.out, HL.out]; exact HP.out)
          have hsq := hBq.size
          have hBw := bthen HBX.out hBq (by omega)
          have HWq := hide (own_below HWX.out hBq (fun q hq => (HWX.out.lt q hq).2))
          have HGq := hide (own_below HGX.out hBq (fun q hq => (HGX.out.lt q hq).2))
          have HSq := hide (own_below HSX.out hBq (fun q hq => (HSX.out.lt q hq).2))
          have HEq := hide ((hBq.block _ (by omega)).trans HEX.out)
          have cc0 := cell_blk HEq.out 0; have cc1 := cell_blk HEq.out 1
          have hgw := hide (HWq.out.lt gw rfl); have hgb := hide (HGq.out.lt gb rfl)
          have hswr : w.heap.size + 1 < wr.heap.size := by omega
          have hswr0 : w.heap.size < wr.heap.size := by omega
          have hne1 : ¬ w.heap.size = w.heap.size + 1 := by omega
          clear hBq HP HWX HGX HSX HEX
          by_cases hneg : p < 0
          · have HR := hide (runS_no HPS.out hneg); have HWN := hide (which_no (show pickS rs zs l j < 0 by rw [HPS.out]; exact hneg)); have HGN := hide (begin_no (show pickS rs zs l j < 0 by rw [HPS.out]; exact hneg))
            go_wp2_with fail
            go_roundw
            case rel => exact ⟨j + 1, m, gw, gb, _, _, x + l, by omega, rfl, hide (by rw [mul_step, ← HX.out]), by omega, by omega, by omega, hide (by rw [HWN.out]; exact Hm.out), rfl, rfl, hgg, hide (by rw [HWN.out]; exact HWq.out), hide (by rw [HGN.out]; exact HGq.out), hide (by rw [HR.out, HD.out]; exact HSq.out), hBw, by omega, HEq⟩
            case measure => simp [intOf]; omega
          · obtain ⟨m0, rfl⟩ := Int.eq_ofNat_of_zero_le (show 0 ≤ p by omega)
            have HR := hide (runS_yes HPS.out); have HWN := hide (which_yes HPS.out); have HGN := hide (begin_yes HPS.out)
            obtain ⟨d, hd⟩ : ∃ d, ds[m0]? = some d := ⟨_, List.getElem?_eq_getElem (by rw [HDL.out]; omega)⟩
            have s0 : wr.cell? ⟨w.heap.size + 1, m0, none⟩ = some (.bool d) := (HSq.out.cellAt m0 (by omega)).trans (by rw [List.getElem?_map, hd]; rfl)
            have sf : wr.frozen? ⟨w.heap.size + 1, m0, none⟩ = false := HSq.out.frozenAt m0
            have hst := HSq.out.stored m0 (.bool true)
            have HST := hide (show (wr.setCell ⟨w.heap.size + 1, m0, none⟩ (.bool true)).ownsRow (w.heap.size + 1) 4 1 (.slice (some ⟨w.heap.size + 1, 0, none⟩) i i) i ((ds.set m0 true).map .bool) by rw [List.map_set]; exact hst.1)
            have HWs := hide (own_set (g := w.heap.size + 1) (o := m0) HWq.out (by omega) (.bool true))
            have HGs := hide (own_set (g := w.heap.size + 1) (o := m0) HGq.out (by omega) (.bool true))
            have HEs := hide (show (wr.setCell ⟨w.heap.size + 1, m0, none⟩ (.bool true)).heap[w.heap.size]? = some (.cells #[.slice a1 n1 c1, .int .i64 l] 48 (0, 0)) by rw [heap_set_other _ _ _ _ _ (by omega)]; exact HEq.out)
            have hBs : Below w.heap.size w (wr.setCell ⟨w.heap.size + 1, m0, none⟩ (.bool true)) := (by repeat' (first | (with_reducible exact Below.refl _ _) | (with_reducible assumption) | (with_reducible refine bdrawn ?_ _) | (with_reducible refine Below.alloc ?_ ?_ _) | (with_reducible refine Below.drew ?_) | (with_reducible refine Below.setCell ?_ ?_ _) | go_size))
            have hss : wr.heap.size ≤ (wr.setCell ⟨w.heap.size + 1, m0, none⟩ (.bool true)).heap.size ∧ (wr.setCell ⟨w.heap.size + 1, m0, none⟩ (.bool true)).heap.size ≤ wr.heap.size := by simp
            have hss1 := hss.1; have hss2 := hss.2
            clear hd hst hss HSq HWq HGq HEq hBw cc0 cc1
            have i1 : (m0 : Int) < (i : Int) := by omega
            go_wp2_with (at_builtin; refine wpList_append_lies _ rfl _ _ 46 rfl (w.heap.size + 2) 3 i0_int (.int .i64 0) 1 8 Try.underlying46 hi_int hz0_int hz1_int hz2_int rfl (by decide) _ _ _ rfl (HWs.out.alloc _) ⟨wr.heap.size, 0, none⟩ 1 1 [.int .i64 m0] rfl rfl ?c1p ?c2p (by decide) ?c3p ?c4p ?c5p (wr.heap.size + 1) ?c6p ?_)
            (try case c1p => exact news_at_of _ _ _ (by go_size))
            (try case c2p => first | exact List.all_eq_true.1 rfl | rfl)
            (try case c3p => (unfold maxLen; omega))
            (try case c4p => omega)
            (try case c5p => (first | go_size | (simp; omega)))
            (try case c6p => simp)
            intro gp cp wp hownp hgp hatp hltp
            obtain ⟨hBp, hsp⟩ := below_app hBs HWs.out (by omega) (by omega) hgp
            have HGp := hide hgp; clear hgp
            have HG1 := hide ((HGs.out.alloc (.cells #[.int .i64 m0] 3)).kept HGp.out (.inr (by intro e; injection e with e; exact hgg e.symm)))
            have HW1 := hide hownp
            have HS1 := hide ((HST.out.alloc (.cells #[.int .i64 m0] 3)).kept HGp.out (.inr (by have := hgw.out.1; intro e; simp [Value.ownBlock] at e; omega)))
            have HE1 := hide (app_block HWs.out HGp.out (by omega) (by omega) HEs.out)
            have hgp2 : ¬ gp = gb := by have := hgb.out.2; rcases hatp with h | h; (simp [Value.ownBlock] at h; omega); omega
            have hlp := hltp
            clear hatp hltp hownp HWs HGs HST HEs HGp
            have hgb2 := hgb.out.2
            have hbB : w.heap.size + 2 ≤ gp := (HW1.out.lt gp rfl).1
            go_wp2_with (at_builtin; refine wpList_append_lies _ rfl _ _ 46 rfl (w.heap.size + 2) 3 i0_int (.int .i64 0) 1 8 Try.underlying46 hi_int hz0_int hz1_int hz2_int rfl (by decide) _ _ _ rfl (HG1.out.alloc _) ⟨wp.heap.size, 0, none⟩ 1 1 [.int .i64 x] rfl rfl ?c1q ?c2q (by decide) ?c3q ?c4q ?c5q (wp.heap.size + 1) ?c6q ?_)
            (try case c1q => exact news_at_of _ _ _ (by go_size))
            (try case c2q => first | exact List.all_eq_true.1 rfl | rfl)
            (try case c3q => (unfold maxLen; omega))
            (try case c4q => omega)
            (try case c5q => (first | go_size | (simp; omega)))
            (try case c6q => simp)
            intro gq cq wq hownq hgq hatq hltq
            obtain ⟨hBq, hsq⟩ := below_app hBp HG1.out (by omega) (by omega) hgq
            have HGq := hide hgq; clear hgq
            have HW2 := hide ((HW1.out.alloc (.cells #[.int .i64 x] 3)).kept HGq.out (.inr (by intro e; simp [Value.ownBlock] at e; omega)))
            have HG2 := hide hownq
            have HS2 := hide ((HS1.out.alloc (.cells #[.int .i64 x] 3)).kept HGq.out (.inr (by have := hgb.out.1; intro e; simp [Value.ownBlock] at e; omega)))
            have HE2 := hide (app_block HG1.out HGq.out (by omega) (by omega) HE1.out)
            have hgq2 : ¬ gp = gq := by rcases hatq with h | h; (simp [Value.ownBlock] at h; omega); omega
            clear hatq hltq hownq HW1 HG1 HS1 HE1 HGq
            have d0 := cell_blk HE2.out 0; have d1 := cell_blk HE2.out 1
            have hsq9 : w.heap.size < wq.heap.size := by omega
            go_wp2_with fail
            go_roundw
            case rel => exact ⟨j + 1, m + 1, gp, gq, _, _, x + l, by omega, rfl, hide (by rw [mul_step, ← HX.out]), by omega, by omega, by omega, hide (by rw [HWN.out, List.length_append, Hm.out]; rfl), rfl, rfl, hgq2, hide (by rw [HWN.out, List.map_append]; exact HW2.out), hide (by rw [HGN.out, List.map_append, ← HX.out]; exact HG2.out), hide (by rw [HR.out, HD.out]; exact HS2.out), hBq, by omega, HE2⟩
            case measure => simp [intOf]; omega
    · have hjN : N = j := by
        have h1 := (HIFF.out j)
        rw [← HX.out] at h1
        have : ¬ j < N := fun h => hlt (h1.2 h)
        omega
      subst hjN
      obtain rfl : M = m := by rw [← HM.out, Hm.out]
      go_wp2_with fail
      go_returns
      exact ⟨_, _, _, _, rfl, own_base HW.out (by omega), own_base HG.out (by omega), HBr.out⟩
end Go.Proofs.Ytahfbhfmhccgoaa
