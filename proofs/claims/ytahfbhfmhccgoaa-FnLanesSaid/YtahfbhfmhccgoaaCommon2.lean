/- CommonPass of the program and of the reference. -/
import Derived.Test.YtahfbhfmhccgoaaNestB
set_option linter.unusedSimpArgs false
set_option linter.unusedVariables false
namespace Go.Proofs.Ytahfbhfmhccgoaa
open Go.RowKit Go.ChangeShapes Go.WideShapes Go.ChangeAt Go.Joins Go.Deep
open Go.ChangeMaps (open_string shut_string)
def andL (a b : List Bool) : List Bool := List.zipWith (fun x y => x && y) a b
def comOk (xss : List (List Bool)) (m : Nat) : Bool := xss.all fun r => r.length == m
def com : List (List Bool) → List Bool
  | [] => []
  | r :: rs => if r.length ≤ 64 ∧ comOk (r :: rs) r.length = true then (r :: rs).foldl andL r else []
theorem andL_len {a b : List Bool} {m : Nat} (h1 : a.length = m) (h2 : b.length = m) : (andL a b).length = m := by simp [andL, h1, h2]
theorem foldl_len {m : Nat} : ∀ (xss : List (List Bool)) (a : List Bool), a.length = m → comOk xss m = true → (xss.foldl andL a).length = m := by
  intro xss
  induction xss with
  | nil => intro a h _; exact h
  | cons r rs ih =>
    intro a h hc
    unfold comOk at hc
    rw [List.all_cons, Bool.and_eq_true] at hc
    exact ih _ (andL_len h (by simpa using hc.1)) hc.2
theorem com_cons (r : List Bool) (rs : List (List Bool)) : com (r :: rs) = if r.length ≤ 64 ∧ comOk (r :: rs) r.length = true then (r :: rs).foldl andL r else [] := rfl
theorem com_le (xss : List (List Bool)) : (com xss).length ≤ 64 := by
  cases xss with
  | nil => simp [com]
  | cons r rs =>
    rw [com_cons]
    by_cases h : r.length ≤ 64 ∧ comOk (r :: rs) r.length = true
    · rw [if_pos h, foldl_len _ _ rfl h.2]; exact h.1
    · rw [if_neg h]; simp
theorem comOk_next {xss : List (List Bool)} {k m : Nat} {r : List Bool} (h : comOk (xss.take k) m = true) (hr : xss[k]? = some r) (hl : r.length = m) : comOk (xss.take (k + 1)) m = true := by
  unfold comOk at *
  rw [take_snoc hr, List.all_append, h]; simp [hl]
theorem comOk_no {xss : List (List Bool)} {k m : Nat} {r : List Bool} (hr : xss[k]? = some r) (hl : r.length ≠ m) : comOk xss m = false := by
  unfold comOk
  rw [List.all_eq_false]
  exact ⟨r, List.mem_of_getElem? hr, by simpa using hl⟩
theorem fold_next {xss : List (List Bool)} {k : Nat} {r a : List Bool} (hr : xss[k]? = some r) : (xss.take (k + 1)).foldl andL a = andL ((xss.take k).foldl andL a) r := by
  rw [take_snoc hr, List.foldl_append]; rfl
theorem com_yes {xss : List (List Bool)} {r : List Bool} (h0 : xss[0]? = some r) (hl : r.length ≤ 64) (h : comOk xss r.length = true) : com xss = xss.foldl andL r := by
  cases xss with
  | nil => simp at h0
  | cons x xs => simp at h0; subst h0; rw [com_cons, if_pos ⟨hl, h⟩]
theorem com_no {xss : List (List Bool)} {r : List Bool} (h0 : xss[0]? = some r) (h : ¬ r.length ≤ 64 ∨ comOk xss r.length = false) : com xss = [] := by
  cases xss with
  | nil => simp at h0
  | cons x xs =>
    simp at h0; subst h0; rw [com_cons]
    rw [if_neg]
    rintro ⟨h1, h2⟩
    rcases h with h | h
    · exact h h1
    · rw [h] at h2; cases h2
/-- In the middle of a row: the first j are anded. -/
def midL (a r : List Bool) (j : Nat) : List Bool := (andL a r).take j ++ a.drop j
theorem midL_zero (a r : List Bool) : midL a r 0 = a := by simp [midL]
theorem midL_full {a r : List Bool} {m : Nat} (h1 : a.length = m) (h2 : r.length = m) : midL a r m = andL a r := by
  unfold midL
  rw [List.take_of_length_le (by rw [andL_len h1 h2]; exact Nat.le_refl _), List.drop_eq_nil_of_le (by omega), List.append_nil]
theorem midL_len {a r : List Bool} {m j : Nat} (h1 : a.length = m) (h2 : r.length = m) (hj : j ≤ m) : (midL a r j).length = m := by
  unfold midL; rw [List.length_append, List.length_take, List.length_drop, andL_len h1 h2]; omega
theorem midL_at {a r : List Bool} {m j : Nat} {x : Bool} (h1 : a.length = m) (h2 : r.length = m) (hj : j < m) (hx : a[j]? = some x) : (midL a r j)[j]? = some x := by
  unfold midL
  rw [List.getElem?_append_right (by rw [List.length_take, andL_len h1 h2]; omega), List.length_take, andL_len h1 h2, show j - min j m = 0 by omega, List.getElem?_drop]; exact hx
theorem midL_next {a r : List Bool} {m j : Nat} {x y : Bool} (h1 : a.length = m) (h2 : r.length = m) (hj : j < m) (hx : a[j]? = some x) (hy : r[j]? = some y) : (midL a r j).set j (x && y) = midL a r (j + 1) := by
  have hz : (andL a r)[j]? = some (x && y) := by unfold andL; rw [List.getElem?_zipWith]; simp [hx, hy]
  exact over_next _ _ j m hj (andL_len h1 h2) h1 _ hz

theorem bool_ones (xs : List Bool) : ∀ u ∈ xs.map Value.bool, u.oneCell' = true := by
  intro u hu
  obtain ⟨x, _, rfl⟩ := List.mem_map.1 hu
  rfl
set_option maxRecDepth 100000 in
set_option maxHeartbeats 2000000 in
theorem impl_CommonPass (a : Option Addr) (n c : Nat) (hs : List Hd) (xss : List (List Bool)) (N : Nat) (w : World) (hn : IsNest .bool w a n c hs xss) (hsz : n ≤ 1048576) (hN : (com xss).length = N) :
    Calls Try.prog 15 #[.slice a n c] w (Fresh w 4 1 N ((com xss).map Value.bool)) := by
  obtain ⟨i0_bool, hi_bool, hz0_bool, hz1_bool, hz2_bool⟩ := info_parts info_bool
  have HN := hide hn; have HL := hide hn.1; have HX := hide hn.2.2.2.2.1; have HNN := hide hN
  have hc := hn.2.1; have hm : c ≤ 9223372036854775807 := hn.2.2.1
  clear hn hN
  by_cases h0 : n = 0
  · have HV := hide (show com xss = [] by rw [List.eq_nil_of_length_eq_zero (show xss.length = 0 by rw [HX.out, HL.out, h0])]; rfl)
    obtain rfl : 0 = N := by rw [← HNN.out, HV.out]; rfl
    have hn0 : ((n : Int) == 0) = true := by simp [h0]
    go_enter Try.func15, Try.ntmps15
    go_wp2
    go_ret
    exact ⟨_, _, rfl, by rw [HV.out]; exact World.ownsRow_nil _ _ _ _, Below.refl _ _⟩
  · have hn0 : ((n : Int) == 0) = false := by simp; omega
    obtain ⟨h, r, b1, o1, hh, hr, rfl, hlb, hcell, hrow⟩ := HN.out.get (show 0 < n by omega)
    obtain ⟨ra, rn, rc⟩ := h
    have hcell0 : w.cell? ⟨b1, o1, none⟩ = some (.slice ra rn rc) := hcell
    have HR0 := hide hr; have HROW := hide (show IsBools w ra rn rc r from hrow)
    have hrc := hrow.2.1; have hrm : rc ≤ 9223372036854775807 := hrow.2.2.1
    simp only at hrc
    have i0 : (0 : Int) < (n : Int) := by omega
    clear hcell hr hrow hh
    by_cases h64 : rn ≤ 64
    · have h64' : (rn : Int) ≤ 64 := by omega
      have hB0 : Below w.heap.size w (w.alloc (.cells #[] 4)) := (by repeat' (first | (with_reducible exact Below.refl _ _) | (with_reducible assumption) | (with_reducible refine bdrawn ?_ _) | (with_reducible refine Below.alloc ?_ ?_ _) | (with_reducible refine Below.drew ?_) | (with_reducible refine Below.setCell ?_ ?_ _) | go_size))
      have HS := hide (HROW.out.below hB0 (Nat.le_refl _))
      have HO0 := hide (World.ownsRow_made (base := w.heap.size) (e := 4) (size := 1) w #[] 0 (Nat.le_refl _) (by decide) rfl)
      go_enter Try.func15, Try.ntmps15
      go_wp2_with (at_builtin; refine wpList_append_any rfl _ _ 26 rfl w.heap.size 4 i0_bool (.bool false) 1 1 Try.underlying26 hi_bool hz0_bool hz1_bool hz2_bool rfl (by decide) _ _ _ rfl (HO0.out) _ _ _ _ rfl (by rw [List.length_map, HROW.out.1, Nat.mul_one]) HS.out.2.2.2 (bool_ones _) ?c3 ?c4 ?c5 ?_)
      case c3 => unfold maxLen; omega
      case c4 => omega
      case c5 => (first | go_size | (simp; omega))
      intro v' wp hownp hgp
      obtain ⟨ap, cp, rfl⟩ := own_shape hownp
      have hBp := below_grown hB0 (HO0.out) (by omega) (by go_size) hgp
      have hsp := hgp.size
      (try simp only [World.size_alloc] at hsp)
      have HGp := hide hgp; clear hgp
      (try simp only [List.nil_append, Nat.zero_add] at hownp)
      have HOp := hide hownp
      have hcp := own_caps hownp
      have hcp1 := hcp.1; have hcp2 : cp ≤ 9223372036854775807 := hcp.2
      clear hcp hownp HO0 HS hB0 HGp
      go_wp2_with fail
      have hrl := hide HROW.out.1
      go_loopw [25] (fun i wr => ∃ k : Nat, k ≤ n ∧ i = .int .i64 k ∧ Hid (comOk (xss.take k) rn = true) ∧ wr.ownsRow w.heap.size 4 1 (.slice ap rn cp) rn (((xss.take k).foldl andL r).map Value.bool) ∧ Below w.heap.size w wr) (fun i _ => n - (intOf i).toNat)
      case atStart => exact ⟨0, by omega, rfl, hide rfl, HOp.out, hBp⟩
      case round =>
        obtain ⟨k, hk, rfl, HT, hown, hB⟩ := hrel
        have hsr := hB.size
        by_cases hlt : k < n
        · obtain ⟨h', r', b2, o2, hh', hr', hbo, hlb', hcell', hrow'⟩ := HN.out.get hlt
          obtain ⟨rfl, rfl⟩ : b1 = b2 ∧ o1 = o2 := by simpa using hbo
          obtain ⟨qa, qn, qc⟩ := h'
          have e0 := (hB.cell (p := ⟨b1, o1 + k, none⟩) hlb').trans hcell'
          have j0 : (0 : Int) ≤ (k : Int) := by omega
          have j1 : (k : Int) < (n : Int) := by omega
          have HRk := hide hr'; have HQ := hide (show IsBools w qa qn qc r' from hrow')
          have hqc := hrow'.2.1; have hqm : qc ≤ 9223372036854775807 := hrow'.2.2.1
          simp only at hqc
          have HO := hide hown
          clear hbo hcell' hr' hrow' hh' hown
          by_cases hq : qn = rn
          · subst hq
            have hqd : ((qn : Int) != (qn : Int)) = false := by simp
            have HA1 := hide (foldl_len _ _ hrl.out HT.out)
            have HQL := hide (show r'.length = qn from HQ.out.1)
            generalize hcur : (xss.take k).foldl andL r = cur at *
            have HC := hide hcur
            clear hcur
            obtain ⟨wo, rfl⟩ : ∃ wo : World, wo = wr := ⟨_, rfl⟩
            go_wp2_with fail
            go_loopw [36] (fun j wi => ∃ m : Nat, m ≤ qn ∧ j = .int .i64 m ∧ wi.ownsRow w.heap.size 4 1 (.slice ap qn cp) qn ((midL cur r' m).map Value.bool) ∧ Below w.heap.size w wi) (fun j _ => qn - (intOf j).toNat)
            case atStart => exact ⟨0, by omega, rfl, by rw [midL_zero]; exact HO.out, hB⟩
            case round =>
              obtain ⟨m, hm, rfl, hown2, hB2⟩ := hrel
              have hs2 := hB2.size
              by_cases hlt2 : m < qn
              · obtain ⟨y, b3, o3, hy, rfl, hlb3, hcy⟩ := HQ.out.2.2.2.get (k := m) (by rw [HQ.out.1]; exact hlt2)
                obtain ⟨x, hx⟩ : ∃ x, cur[m]? = some x := ⟨_, List.getElem?_eq_getElem (by rw [HA1.out]; exact hlt2)⟩
                obtain ⟨g, rfl, hg0, hg1, hgc⟩ := own_some hown2 (by omega)
                have y0 := (hB2.cell (p := ⟨b3, o3 + m, none⟩) hlb3).trans hcy
                have x0 : wr.cell? ⟨g, m, none⟩ = some (.bool x) := (hown2.cellAt m (by omega)).trans (by rw [List.getElem?_map, midL_at HA1.out HQL.out hlt2 hx]; rfl)
                have xf := fun j => hown2.frozenAt j
                have l0 : (0 : Int) ≤ (m : Int) := by omega
                have l1 : (m : Int) < (qn : Int) := by omega
                have l2 : b3 < wr.heap.size := by omega
                have HNX := hide (midL_next HA1.out HQL.out hlt2 hx hy)
                have HO2 := hide hown2
                clear hown2 hcy hx hy hgc
                cases x
                · go_wp2_with fail
                  go_roundw
                  case rel =>
                    refine ⟨m + 1, by omega, by go_num, ?_, (by repeat' (first | (with_reducible exact Below.refl _ _) | (with_reducible assumption) | (with_reducible refine bdrawn ?_ _) | (with_reducible refine Below.alloc ?_ ?_ _) | (with_reducible refine Below.drew ?_) | (with_reducible refine Below.setCell ?_ ?_ _) | go_size))⟩
                    have hst := (HO2.out.stored m (.bool (false && y))).1
                    rw [← List.map_set, HNX.out] at hst
                    exact hst
                  case measure => simp [intOf]; omega
                · go_wp2_with fail
                  go_roundw
                  case rel =>
                    refine ⟨m + 1, by omega, by go_num, ?_, (by repeat' (first | (with_reducible exact Below.refl _ _) | (with_reducible assumption) | (with_reducible refine bdrawn ?_ _) | (with_reducible refine Below.alloc ?_ ?_ _) | (with_reducible refine Below.drew ?_) | (with_reducible refine Below.setCell ?_ ?_ _) | go_size))⟩
                    have hst := (HO2.out.stored m (.bool (true && y))).1
                    rw [← List.map_set, HNX.out] at hst
                    exact hst
                  case measure => simp [intOf]; omega
              · obtain rfl : m = qn := by omega
                rw [midL_full HA1.out HQL.out] at hown2
                go_wp2_with fail
                go_roundw
                case rel => exact ⟨k + 1, by omega, by go_num, hide (comOk_next HT.out HRk.out HQL.out), by rw [fold_next HRk.out, HC.out]; exact hown2, hB2⟩
                case measure => simp [intOf]; omega
          · have HV := hide (com_no HR0.out (.inr (by rw [hrl.out]; exact comOk_no HRk.out (by rw [HQ.out.1]; exact hq))))
            obtain rfl : 0 = N := by rw [← HNN.out, HV.out]; rfl
            have hqd : ((qn : Int) != (rn : Int)) = true := by simp; omega
            go_wp2
            go_ret
            exact ⟨_, _, rfl, by rw [HV.out]; exact World.ownsRow_nil _ _ _ _, hB⟩
        · obtain rfl : k = n := by omega
          rw [List.take_of_length_le (by rw [HX.out, HL.out]; exact Nat.le_refl _)] at hown HT
          have HV := hide (com_yes HR0.out (by rw [hrl.out]; exact h64) (by rw [hrl.out]; exact HT.out))
          obtain rfl : rn = N := by rw [← HNN.out, HV.out, foldl_len _ _ hrl.out HT.out]
          go_wp2
          go_ret
          exact ⟨_, _, rfl, by rw [HV.out]; exact hown, hB⟩
    · have HV := hide (com_no HR0.out (.inl (by rw [HROW.out.1]; exact h64)))
      obtain rfl : 0 = N := by rw [← HNN.out, HV.out]; rfl
      have h64' : ¬ (rn : Int) ≤ 64 := by omega
      have h64d : decide ((64 : Int) < (rn : Int)) = true := by simp; omega
      go_enter Try.func15, Try.ntmps15
      go_wp2
      go_ret
      exact ⟨_, _, rfl, by rw [HV.out]; exact World.ownsRow_nil _ _ _ _, Below.refl _ _⟩

theorem own_made_at {w : World} {base b : Nat} {e : TypeId} {size : Nat} (hb : b = w.heap.size) (h : base ≤ w.heap.size) : (w.alloc (.cells #[] e)).ownsRow base e size (.slice (some ⟨b, 0, none⟩) 0 0) 0 [] := by
  subst hb
  exact World.ownsRow_made w #[] 0 h (by decide) (by simp)
theorem andL_true {r : List Bool} {m : Nat} (h : r.length = m) : andL (List.replicate m true) r = r := by
  subst h
  induction r with
  | nil => rfl
  | cons x r ih => show List.zipWith _ (List.replicate (r.length + 1) true) (x :: r) = _; rw [List.replicate_succ, List.zipWith_cons_cons]; simp only [Bool.true_and]; rw [show List.zipWith (fun x y => x && y) (List.replicate r.length true) r = r from ih]
theorem andL_self (r : List Bool) : andL r r = r := by
  induction r with
  | nil => rfl
  | cons x r ih => show List.zipWith _ (x :: r) (x :: r) = _; rw [List.zipWith_cons_cons, Bool.and_self, show List.zipWith (fun x y => x && y) r r = r from ih]
theorem com_yes' {xss : List (List Bool)} {r : List Bool} (h0 : xss[0]? = some r) (hl : r.length ≤ 64) (h : comOk xss r.length = true) : com xss = xss.foldl andL (List.replicate r.length true) := by
  rw [com_yes h0 hl h]
  cases xss with
  | nil => simp at h0
  | cons x xs => simp at h0; subst h0; rw [List.foldl_cons, List.foldl_cons, andL_self, andL_true rfl]
set_option maxRecDepth 100000 in
set_option maxHeartbeats 2000000 in
theorem spec_CommonPass (a : Option Addr) (n c : Nat) (hs : List Hd) (xss : List (List Bool)) (N : Nat) (w : World) (hn : IsNest .bool w a n c hs xss) (hsz : n ≤ 1048576) (hN : (com xss).length = N) :
    Calls Try.prog 16 #[.slice a n c] w (Fresh w 4 1 N ((com xss).map Value.bool)) := by
  obtain ⟨i0_bool, hi_bool, hz0_bool, hz1_bool, hz2_bool⟩ := info_parts info_bool
  have HN := hide hn; have HL := hide hn.1; have HX := hide hn.2.2.2.2.1; have HNN := hide hN
  have hc := hn.2.1; have hm : c ≤ 9223372036854775807 := hn.2.2.1
  clear hn hN
  by_cases h0 : n = 0
  · have HV := hide (show com xss = [] by rw [List.eq_nil_of_length_eq_zero (show xss.length = 0 by rw [HX.out, HL.out, h0])]; rfl)
    obtain rfl : 0 = N := by rw [← HNN.out, HV.out]; rfl
    have hn0 : ((n : Int) == 0) = true := by simp [h0]
    go_enter Try.func16, Try.ntmps16
    go_wp2
    go_ret
    exact ⟨_, _, rfl, by rw [HV.out]; exact World.ownsRow_made w #[] 0 (Nat.le_refl _) (by decide) rfl, (by repeat' (first | (with_reducible exact Below.refl _ _) | (with_reducible assumption) | (with_reducible refine bdrawn ?_ _) | (with_reducible refine Below.alloc ?_ ?_ _) | (with_reducible refine Below.drew ?_) | (with_reducible refine Below.setCell ?_ ?_ _) | go_size))⟩
  · have hn0 : ((n : Int) == 0) = false := by simp; omega
    obtain ⟨h, r, b1, o1, hh, hr, rfl, hlb, hcell, hrow⟩ := HN.out.get (show 0 < n by omega)
    obtain ⟨ra, rn, rc⟩ := h
    have hcell0 : w.cell? ⟨b1, o1, none⟩ = some (.slice ra rn rc) := hcell
    have HR0 := hide hr; have HROW := hide (show IsBools w ra rn rc r from hrow)
    have hrc := hrow.2.1; have hrm : rc ≤ 9223372036854775807 := hrow.2.2.1
    simp only at hrc
    have i0 : (0 : Int) < (n : Int) := by omega
    clear hcell hr hrow hh
    by_cases h64 : rn ≤ 64
    · have h64' : (rn : Int) ≤ 64 := by omega
      have HO0 := hide (World.ownsRow_made (base := w.heap.size) (e := 4) (size := 1) w #[] 0 (Nat.le_refl _) (by decide) rfl)
      go_enter Try.func16, Try.ntmps16
      go_wp2_with fail
      go_loopw [3, 4] (fun v i wr => ∃ (k : Nat) (a' : Option Addr) (c' : Nat), k ≤ rn ∧ i = .int .i64 k ∧ v = .slice a' k c' ∧ wr.ownsRow w.heap.size 4 1 (.slice a' k c') k ((List.replicate k true).map Value.bool) ∧ Below w.heap.size w wr) (fun _ i _ => rn - (intOf i).toNat)
      case atStart => exact ⟨0, _, _, by omega, rfl, rfl, HO0.out, (by repeat' (first | (with_reducible exact Below.refl _ _) | (with_reducible assumption) | (with_reducible refine bdrawn ?_ _) | (with_reducible refine Below.alloc ?_ ?_ _) | (with_reducible refine Below.drew ?_) | (with_reducible refine Below.setCell ?_ ?_ _) | go_size))⟩
      case round =>
        obtain ⟨k, a', c', hk, rfl, rfl, hown, hB⟩ := hrel
        have hsr := hB.size
        have e0 := (hB.cell (p := ⟨b1, o1, none⟩) hlb).trans hcell0
        have HO := hide hown
        clear hown
        by_cases hlt : k < rn
        · have j1 : (k : Int) < (rn : Int) := by omega
          go_wp2_with (at_builtin; refine wpList_append_own _ rfl _ _ 26 rfl w.heap.size 4 i0_bool (.bool false) 1 1 Try.underlying26 hi_bool hz0_bool hz1_bool hz2_bool rfl (by decide) _ _ _ rfl (HO.out.alloc _) ⟨wr.heap.size, 0, none⟩ 1 1 [.bool true] rfl rfl ?c1 ?c2 ?c3 ?c4 ?c5 ?_)
          case c1 => exact news_at_of _ _ _ (by go_size)
          case c2 => exact List.all_eq_true.1 rfl
          case c3 => unfold maxLen; omega
          case c4 => omega
          case c5 => (first | go_size | (simp; omega))
          intro v' wp hownp hgp _
          obtain ⟨ap, cp, rfl⟩ := own_shape hownp
          obtain ⟨hBp, hsp⟩ := below_app hB HO.out (by omega) (by omega) hgp
          have HGp := hide hgp; clear hgp
          go_wp2
          go_roundw
          case rel => exact ⟨k + 1, _, _, by omega, by go_num, rfl, by rw [List.replicate_succ', List.map_append]; simpa using hownp, hBp⟩
          case measure => simp [intOf]; omega
        · obtain rfl : rn = k := by omega
          have hrl := hide HROW.out.1
          have hcp := own_caps HO.out
          have hcp1 := hcp.1; have hcp2 : c' ≤ 9223372036854775807 := hcp.2
          clear hcp
          have hBo := hB
          go_wp2_with fail
          go_loopw [5] (fun i wr => ∃ k : Nat, k ≤ n ∧ i = .int .i64 k ∧ Hid (comOk (xss.take k) rn = true) ∧ wr.ownsRow w.heap.size 4 1 (.slice a' rn c') rn (((xss.take k).foldl andL (List.replicate rn true)).map Value.bool) ∧ Below w.heap.size w wr) (fun i _ => n - (intOf i).toNat)
          case atStart => exact ⟨0, by omega, rfl, hide rfl, HO.out, hBo⟩
          case round =>
            obtain ⟨k, hk, rfl, HT, hown, hB⟩ := hrel
            have hsr := hB.size
            by_cases hlt : k < n
            · obtain ⟨h', r', b2, o2, hh', hr', hbo, hlb', hcell', hrow'⟩ := HN.out.get hlt
              obtain ⟨rfl, rfl⟩ : b1 = b2 ∧ o1 = o2 := by simpa using hbo
              obtain ⟨qa, qn, qc⟩ := h'
              have e0 := (hB.cell (p := ⟨b1, o1 + k, none⟩) hlb').trans hcell'
              have j0 : (0 : Int) ≤ (k : Int) := by omega
              have j1 : (k : Int) < (n : Int) := by omega
              have HC' := hide hcell'
              have HRk := hide hr'; have HQ := hide (show IsBools w qa qn qc r' from hrow')
              have hqc := hrow'.2.1; have hqm : qc ≤ 9223372036854775807 := hrow'.2.2.1
              simp only at hqc
              have HO := hide hown
              clear hbo hcell' hr' hrow' hh' hown
              by_cases hq : qn = rn
              · subst hq
                have hqd : ((qn : Int) != (qn : Int)) = false := by simp
                have HA1 := hide (foldl_len _ (List.replicate qn true) (List.length_replicate) HT.out)
                have HQL := hide (show r'.length = qn from HQ.out.1)
                generalize hcur : (xss.take k).foldl andL (List.replicate qn true) = cur at *
                have HC := hide hcur
                clear hcur
                obtain ⟨wo, rfl⟩ : ∃ wo : World, wo = wr := ⟨_, rfl⟩
                go_wp2_with fail
                go_loopw [6] (fun j wi => ∃ m : Nat, m ≤ qn ∧ j = .int .i64 m ∧ wi.ownsRow w.heap.size 4 1 (.slice a' qn c') qn ((midL cur r' m).map Value.bool) ∧ Below w.heap.size w wi) (fun j _ => qn - (intOf j).toNat)
                case atStart => exact ⟨0, by omega, rfl, by rw [midL_zero]; exact HO.out, hB⟩
                case round =>
                  obtain ⟨m, hm, rfl, hown2, hB2⟩ := hrel
                  have hs2 := hB2.size
                  by_cases hlt2 : m < qn
                  · obtain ⟨y, b3, o3, hy, rfl, hlb3, hcy⟩ := HQ.out.2.2.2.get (k := m) (by rw [HQ.out.1]; exact hlt2)
                    obtain ⟨x, hx⟩ : ∃ x, cur[m]? = some x := ⟨_, List.getElem?_eq_getElem (by rw [HA1.out]; exact hlt2)⟩
                    obtain ⟨g, rfl, hg0, hg1, hgc⟩ := own_some hown2 (by omega)
                    have y0 := (hB2.cell (p := ⟨b3, o3 + m, none⟩) hlb3).trans hcy
                    have e0i := (hB2.cell (p := ⟨b1, o1 + k, none⟩) hlb').trans HC'.out
                    have x0 : wr.cell? ⟨g, m, none⟩ = some (.bool x) := (hown2.cellAt m (by omega)).trans (by rw [List.getElem?_map, midL_at HA1.out HQL.out hlt2 hx]; rfl)
                    have xf := fun j => hown2.frozenAt j
                    have l0 : (0 : Int) ≤ (m : Int) := by omega
                    have l1 : (m : Int) < (qn : Int) := by omega
                    have l2 : b3 < wr.heap.size := by omega
                    have HNX := hide (midL_next HA1.out HQL.out hlt2 hx hy)
                    have HO2 := hide hown2
                    clear hown2 hcy hx hy hgc
                    cases x
                    · go_wp2_with fail
                      go_roundw
                      case rel =>
                        refine ⟨m + 1, by omega, by go_num, ?_, (by repeat' (first | (with_reducible exact Below.refl _ _) | (with_reducible assumption) | (with_reducible refine bdrawn ?_ _) | (with_reducible refine Below.alloc ?_ ?_ _) | (with_reducible refine Below.drew ?_) | (with_reducible refine Below.setCell ?_ ?_ _) | go_size))⟩
                        have hst := (HO2.out.stored m (.bool (false && y))).1
                        rw [← List.map_set, HNX.out] at hst
                        exact hst
                      case measure => simp [intOf]; omega
                    · go_wp2_with fail
                      go_roundw
                      case rel =>
                        refine ⟨m + 1, by omega, by go_num, ?_, (by repeat' (first | (with_reducible exact Below.refl _ _) | (with_reducible assumption) | (with_reducible refine bdrawn ?_ _) | (with_reducible refine Below.alloc ?_ ?_ _) | (with_reducible refine Below.drew ?_) | (with_reducible refine Below.setCell ?_ ?_ _) | go_size))⟩
                        have hst := (HO2.out.stored m (.bool (true && y))).1
                        rw [← List.map_set, HNX.out] at hst
                        exact hst
                      case measure => simp [intOf]; omega
                  · obtain rfl : m = qn := by omega
                    rw [midL_full HA1.out HQL.out] at hown2
                    go_wp2_with fail
                    go_roundw
                    case rel => exact ⟨k + 1, by omega, by go_num, hide (comOk_next HT.out HRk.out HQL.out), by rw [fold_next HRk.out, HC.out]; exact hown2, hB2⟩
                    case measure => simp [intOf]; omega
              · have HV := hide (com_no HR0.out (.inr (by rw [hrl.out]; exact comOk_no HRk.out (by rw [HQ.out.1]; exact hq))))
                obtain rfl : 0 = N := by rw [← HNN.out, HV.out]; rfl
                have hqd : ((qn : Int) != (rn : Int)) = true := by simp; omega
                go_wp2
                go_ret
                exact ⟨_, _, rfl, by rw [HV.out]; exact own_made_at (by simp) (by omega), (by repeat' (first | (with_reducible exact Below.refl _ _) | (with_reducible assumption) | (with_reducible refine bdrawn ?_ _) | (with_reducible refine Below.alloc ?_ ?_ _) | (with_reducible refine Below.drew ?_) | (with_reducible refine Below.setCell ?_ ?_ _) | go_size))⟩
            · obtain rfl : k = n := by omega
              rw [List.take_of_length_le (by rw [HX.out, HL.out]; exact Nat.le_refl _)] at hown HT
              have HV := hide (com_yes' HR0.out (by rw [hrl.out]; exact h64) (by rw [hrl.out]; exact HT.out))
              obtain rfl : rn = N := by rw [← HNN.out, HV.out, hrl.out, foldl_len _ _ List.length_replicate HT.out]
              go_wp2
              go_ret
              exact ⟨_, _, rfl, by rw [HV.out, hrl.out]; exact hown, hB⟩
    · have HV := hide (com_no HR0.out (.inl (by rw [HROW.out.1]; exact h64)))
      obtain rfl : 0 = N := by rw [← HNN.out, HV.out]; rfl
      have h64' : ¬ (rn : Int) ≤ 64 := by omega
      have h64d : decide ((64 : Int) < (rn : Int)) = true := by simp; omega
      go_enter Try.func16, Try.ntmps16
      go_wp2
      go_ret
      exact ⟨_, _, rfl, by rw [HV.out]; exact World.ownsRow_made w #[] 0 (Nat.le_refl _) (by decide) rfl, (by repeat' (first | (with_reducible exact Below.refl _ _) | (with_reducible assumption) | (with_reducible refine bdrawn ?_ _) | (with_reducible refine Below.alloc ?_ ?_ _) | (with_reducible refine Below.drew ?_) | (with_reducible refine Below.setCell ?_ ?_ _) | go_size))⟩
end Go.Proofs.Ytahfbhfmhccgoaa
