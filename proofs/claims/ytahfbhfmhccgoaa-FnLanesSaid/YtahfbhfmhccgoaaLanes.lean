/- The drawn lanes: at most three lists of delays. -/
import Derived.Test.YtahfbhfmhccgoaaNestB
import Derived.Test.YtahfbhfmhccgoaaEyes
import Derived.Test.YtahfbhfmhccgoaaDrawSw
set_option linter.unusedSimpArgs false
set_option linter.unusedVariables false
namespace Go.Proofs.Ytahfbhfmhccgoaa
open Go.RowKit Go.ChangeShapes Go.WideShapes Go.ChangeAt Go.Joins Go.Deep
open Go.ChangeMaps (open_string shut_string)
def DrewLanes (w : World) (e : Ending) (w' : World) : Prop :=
  ∃ (a : Option Addr) (n c : Nat) (hs : List Hd) (xss : List (List Bool)), n ≤ 3 ∧ e = .returned (.slice a n c) ∧ IsNest .bool w' a n c hs xss ∧ Below w.heap.size w w'
set_option maxRecDepth 100000 in
set_option maxHeartbeats 2000000 in
theorem spec_DrawCommonPass (a : Option Addr) (n c : Nat) (bs : List Int) (w : World) (ha : IsInts .u8 w a n c bs) (hs : n ≤ 1048576) :
    Calls Try.prog 14 #[.slice a n c] w (DrewLanes w) := by
  obtain ⟨i0_SB, hi_SB, hz0_SB, hz1_SB, hz2_SB⟩ := info_parts info_SB
  have HA := hide ha
  clear ha
  go_enter Try.func14, Try.ntmps14
  go_wp2_with fail
  refine (new_cur a n c bs w w.heap.size (Nat.le_refl _) HA.out hs).mono ?_
  rintro e w1 ⟨b, rfl, hC1, hwb, hlb, hB1⟩
  go_wp2_with fail
  refine (spec_l01Below w a n c b bs _ 16 HA.out hs (by omega) hC1).mono ?_
  rintro e w2 ⟨x, x0, x1, rfl, hC2, hg2⟩
  obtain ⟨m, rfl⟩ := Int.eq_ofNat_of_zero_le x0
  have hs1 := hB1.size
  have hs2 := hg2.size
  have hbB : b < w2.heap.size := by omega
  clear hC1 hg2 hB1
  go_wp2_with fail
  go_loopw [5, 6] (fun v i wr => ∃ (k : Nat) (a' : Option Addr) (c' : Nat) (gs : List Hd) (xss : List (List Bool)), k ≤ 3 ∧ i = .int .i64 k ∧ v = .slice a' k c' ∧ wr.ownsRow w2.heap.size 26 1 (.slice a' k c') k (gs.map Hd.val) ∧ IsRows .bool wr gs xss ∧ (∀ h ∈ gs, ∀ x, h.a = some x → w2.heap.size ≤ x.block ∧ x.block < wr.heap.size ∧ some x.block ≠ (Value.slice a' k c').ownBlock) ∧ Cur w a n c b wr ∧ w2.heap.size < wr.heap.size) (fun _ i _ => 3 - (intOf i).toNat)
  case atStart => exact ⟨0, _, _, [], [], by omega, rfl, rfl, own_made_at rfl (by simp), ⟨rfl, fun i h xs h1 => by simp at h1⟩, fun h hh => by simp at hh, hC2.alloc _, by simp⟩
  case round =>
    obtain ⟨k, a', c', gs, xss, hk, rfl, rfl, hown, hrows, hdis, hC, hsz⟩ := hrel
    have HO := hide hown; have HR := hide hrows; have HD := hide hdis
    have HD2 := hide (fun q hq => (hown.lt q hq).2)
    clear hown hrows hdis
    go_wp2_with fail
    refine (spec_l01Below w a n c b bs _ 4 HA.out hs (by omega) hC).mono ?_
    rintro e y1 ⟨x, hx0, hx1, rfl, hCy, hgy⟩
    have HOy := hide (HO.out.kept hgy (own_ne HO.out (by omega)))
    have hsy := hgy.size
    have HRy := hide (HR.out.kept hgy (fun h hh z hz e => by have := (HD.out h hh z hz).1; injection e with e; omega))
    clear HO HR hC
    by_cases hlt : (k : Int) < x
    · go_wp2_with fail
      refine (spec_l27Eye w a n c b bs _ m HA.out hs (by omega) hCy).mono ?_
      rintro e z1 ⟨az, mz, cz, zs, hm1, hm2, rfl, hownz, hzl, hCz, hgz⟩
      obtain rfl : mz = m := by omega
      have HOz := hide (HOy.out.kept hgz (own_ne HOy.out (by omega)))
      have hsz1 := hgz.size
      have HRz := hide (HRy.out.kept hgz (fun h hh z hz e => by have := (HD.out h hh z hz).1; injection e with e; omega))
      have HNz := hide hownz
      have hBz : Below w.heap.size w z1 := cur_below hCz (Below.refl _ _) (Nat.le_refl _)
      have HCz := hide hCz
      clear HRy HOy hCy hCz hownz hzl
      go_wp2_with (at_builtin; refine wpList_append_lies _ rfl _ _ 24 rfl w2.heap.size 26 i0_SB (.slice none 0 0) 1 24 Try.underlying24 hi_SB hz0_SB hz1_SB hz2_SB rfl (by decide) _ _ _ rfl (HOz.out.alloc _) ⟨z1.heap.size, 0, none⟩ 1 1 [.slice az mz cz] rfl rfl ?c1 ?c2 (by decide) ?c3 ?c4 ?c5 (z1.heap.size + 1) ?c6 ?_)
      case c1 => exact news_at_of _ _ _ (by go_size)
      case c2 => exact List.all_eq_true.1 rfl
      case c3 => unfold maxLen; omega
      case c4 => omega
      case c5 => (first | go_size | (simp; omega))
      case c6 => simp
      intro gp cp wp hownp hgp hatp hltp
      obtain ⟨hBp, hsp⟩ := below_app hBz HOz.out (by omega) (by omega) hgp
      have HGp := hide hgp; clear hgp
      have hown1 := HOz.out
      have hnew : ∀ z, az = some z → y1.heap.size ≤ z.block ∧ z.block < z1.heap.size := fun z hz => HNz.out.lt z.block (by rw [hz]; rfl)
      have hold : ∀ q, (Value.slice a' k c').ownBlock = some q → w2.heap.size ≤ q ∧ q < wr.heap.size := fun q hq => ⟨(HOz.out.lt q hq).1, (HD2.out q hq)⟩
      have hdis2 : ∀ h ∈ gs ++ [⟨az, mz, cz⟩], ∀ z, h.a = some z → w2.heap.size ≤ z.block ∧ z.block < z1.heap.size ∧ some z.block ≠ (Value.slice a' k c').ownBlock := fun h hh z hz => by
        rcases List.mem_append.1 hh with hh | hh
        · have := HD.out h hh z hz; exact ⟨this.1, by omega, this.2.2⟩
        · simp at hh; subst hh
          have := hnew z hz
          exact ⟨by omega, this.2, fun e => by have := (hold _ e.symm).2; omega⟩
      have HRp := hide (((HRz.out.snoc (h := ⟨az, mz, cz⟩) (isBools_own HNz.out)).below (B := z1.heap.size) (w' := z1.alloc (.cells #[.slice az mz cz] 26)) ((by repeat' (first | (with_reducible exact Below.refl _ _) | (with_reducible assumption) | (with_reducible refine bdrawn ?_ _) | (with_reducible refine Below.alloc ?_ ?_ _) | (with_reducible refine Below.drew ?_) | (with_reducible refine Below.setCell ?_ ?_ _) | go_size))) (Nat.le_refl _)).kept HGp.out (fun h hh z hz => (hdis2 h hh z hz).2.2))
      have hCp := HCz.out.app HOz.out (by omega) HGp.out
      have hdis3 : ∀ h ∈ gs ++ [⟨az, mz, cz⟩], ∀ z, h.a = some z → w2.heap.size ≤ z.block ∧ z.block < wp.heap.size ∧ some z.block ≠ (Value.slice (some ⟨gp, 0, none⟩) (k + 1) cp).ownBlock := fun h hh z hz => by
        have h1 := hdis2 h hh z hz
        refine ⟨h1.1, by omega, fun e => ?_⟩
        have e' : z.block = gp := by simpa [Value.ownBlock] using e
        rcases hatp with h2 | h2
        · exact h1.2.2 (by rw [h2, e'])
        · omega
      have HD3 := hide hdis3; have HP := hide hownp; have HCp := hide hCp
      clear hdis2 hdis3 hnew hold hown1 hownp hCp hatp
      go_wp2
      go_roundw
      case rel => exact ⟨k + 1, _, _, gs ++ [⟨az, mz, cz⟩], xss ++ [zs], by omega, by go_num, rfl, by rw [List.map_append]; exact HP.out, HRp.out, HD3.out, HCp.out, by omega⟩
      case measure => simp [intOf]; omega
    · rcases Nat.eq_zero_or_pos k with hk0 | hk0
      · subst hk0
        go_wp2_with fail
        go_ret
        exact ⟨_, 0, _, gs, xss, by omega, rfl, nest_of HOy.out HRy.out, cur_below hCy (Below.refl _ _) (Nat.le_refl _)⟩
      · have hk1 : (0 : Int) < (k : Int) := by omega
        go_wp2_with fail
        refine (spec_l01Once w a n c b bs _ 8 HA.out hs (by omega) hCy).mono ?_
        rintro e z1 ⟨y, rfl, hCz, hgz⟩
        have HOz := hide (HOy.out.kept hgz (own_ne HOy.out (by omega)))
        have hsz1 := hgz.size
        have HRz := hide (HRy.out.kept hgz (fun h hh z hz e => by have := (HD.out h hh z hz).1; injection e with e; omega))
        clear HOy HRy hCy
        cases y
        · go_wp2_with fail
          go_ret
          exact ⟨_, k, _, gs, xss, by omega, rfl, nest_of HOz.out HRz.out, cur_below hCz (Below.refl _ _) (Nat.le_refl _)⟩
        · go_wp2_with fail
          refine (spec_l27Any w a n c b bs _ HA.out hs hCz).mono ?_
          rintro e u1 ⟨au, mu, cu, zs, hm1, hm2, rfl, hownu, hzl, hCu, hgu⟩
          have HOu := hide (HOz.out.kept hgu (own_ne HOz.out (by omega)))
          have hsu1 := hgu.size
          have HRu := hide (HRz.out.kept hgu (fun h hh z hz e => by have := (HD.out h hh z hz).1; injection e with e; omega))
          have HNu := hide hownu
          obtain ⟨g, rfl, hg0, hg1, hgc⟩ := own_some HOu.out (by omega)
          obtain ⟨v0, e0⟩ : ∃ v, u1.cell? ⟨g, 0, none⟩ = some v := ⟨_, (HOu.out.cellAt 0 (by omega)).trans (List.getElem?_eq_getElem (by rw [HOu.out.1]; omega))⟩
          have ef := fun j => HOu.out.frozenAt j
          have hBu : Below w.heap.size w u1 := cur_below hCu (Below.refl _ _) (Nat.le_refl _)
          have hgw : w.heap.size ≤ g := by omega
          have hgr := HD2.out g rfl
          have hst := (HOu.out.stored 0 (.slice au mu cu))
          have Hst := hide hst
          clear hownu hzl hCu hCz HRz HOz hst hgc
          go_wp2_with fail
          go_ret
          have hR2 := ((HRu.out.set (isBools_own HNu.out : IsRow Value.bool u1 ⟨au, mu, cu⟩ zs) 0)).kept (row := some g) (only_set (b := g) (o := 0) (only_refl u1 (some g)) (.slice au mu cu)) (fun h hh z hz e => by
            injection e with e
            rcases List.mem_or_eq_of_mem_set hh with hh | hh
            · exact (HD.out h hh z hz).2.2 (by rw [e]; rfl)
            · subst hh
              have := HNu.out.lt z.block (by rw [show au = some z from hz]; rfl)
              omega)
          exact ⟨_, k, _, gs.set 0 ⟨au, mu, cu⟩, xss.set 0 zs, by omega, rfl, nest_of (by rw [List.map_set]; exact Hst.out.1) hR2, (by repeat' (first | (with_reducible exact Below.refl _ _) | (with_reducible assumption) | (with_reducible refine bdrawn ?_ _) | (with_reducible refine Below.alloc ?_ ?_ _) | (with_reducible refine Below.drew ?_) | (with_reducible refine Below.setCell ?_ ?_ _) | go_size))⟩
end Go.Proofs.Ytahfbhfmhccgoaa
