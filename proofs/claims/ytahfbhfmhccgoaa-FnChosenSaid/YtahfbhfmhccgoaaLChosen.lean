/- A chosen request is able, no older able request has waited too long, no hit is passed over for a miss: for every drawn input FnChosen answers true. No condition. -/
import Derived.Test.YtahfbhfmhccgoaaDrawQ4
import Derived.Test.YtahfbhfmhccgoaaChoose
import Derived.Test.YtahfbhfmhccgoaaChP
set_option linter.unusedSimpArgs false
set_option linter.unusedVariables false
namespace Go.Proofs.Ytahfbhfmhccgoaa
open Go.RowKit Go.ChangeShapes Go.WideShapes Go.ChangeAt Go.Joins Go.Deep
open Go.ChangeMaps (open_string shut_string)
theorem chosen_one : chosen [⟨0, 0, 0, false, 0, 0⟩] [true] [] 5 0 = 0 := by decide
theorem one_request (w : World) (T : TypeId) : IsStructs rqF 6 (w.alloc (.cells #[.int .i64 0, .int .i64 0, .int .i64 0, .bool false, .int .i64 0, .int .i64 0] T)) (some ⟨w.heap.size, 0, none⟩) 1 1 [⟨0, 0, 0, false, 0, 0⟩] := by
  refine ⟨rfl, Nat.le_refl _, by unfold maxLen; omega, fun i v hv => ⟨w.heap.size, 0, rfl, ?_⟩⟩
  have h := hv
  simp only [World.cell?, World.alloc, Array.getElem?_push_size, Nat.zero_add]
  have e : (#[Value.int .i64 0, .int .i64 0, .int .i64 0, .bool false, .int .i64 0, .int .i64 0] : Array Value)[i]? = (List.flatMap rqF [(⟨0, 0, 0, false, 0, 0⟩ : Rq)])[i]? := by
    rw [show (#[Value.int .i64 0, .int .i64 0, .int .i64 0, .bool false, .int .i64 0, .int .i64 0] : Array Value) = (List.flatMap rqF [(⟨0, 0, 0, false, 0, 0⟩ : Rq)]).toArray from rfl, List.getElem?_toArray]
  exact e.trans h
theorem one_bool (w : World) (T : TypeId) : IsBools (w.alloc (.cells #[.bool true] T)) (some ⟨w.heap.size, 0, none⟩) 1 1 [true] := by
  refine ⟨rfl, Nat.le_refl _, by unfold maxLen; omega, fun i v hv => ⟨w.heap.size, 0, rfl, ?_⟩⟩
  simp only [World.cell?, World.alloc, Array.getElem?_push_size, Nat.zero_add]
  have e : (#[Value.bool true] : Array Value)[i]? = (List.map Value.bool [true])[i]? := by
    rw [show (#[Value.bool true] : Array Value) = (List.map Value.bool [true]).toArray from rfl, List.getElem?_toArray]
  exact e.trans hv
theorem no_bools (w : World) (T : TypeId) : IsBools (w.alloc (.cells #[] T)) (some ⟨w.heap.size, 0, none⟩) 0 0 [] := ⟨rfl, Nat.le_refl _, Nat.zero_le _, RowIn.nil _ _⟩
theorem zero_choice (W : World) (T1 T2 T3 : TypeId) : IsStructs rqF 6 (((W.alloc (.cells #[.int .i64 0, .int .i64 0, .int .i64 0, .bool false, .int .i64 0, .int .i64 0] T1)).alloc (.cells #[.bool true] T2)).alloc (.cells #[] T3)) (some ⟨W.heap.size, 0, none⟩) 1 1 [⟨0, 0, 0, false, 0, 0⟩] ∧
    IsBools (((W.alloc (.cells #[.int .i64 0, .int .i64 0, .int .i64 0, .bool false, .int .i64 0, .int .i64 0] T1)).alloc (.cells #[.bool true] T2)).alloc (.cells #[] T3)) (some ⟨W.heap.size + 1, 0, none⟩) 1 1 [true] ∧
    IsBools (((W.alloc (.cells #[.int .i64 0, .int .i64 0, .int .i64 0, .bool false, .int .i64 0, .int .i64 0] T1)).alloc (.cells #[.bool true] T2)).alloc (.cells #[] T3)) (some ⟨W.heap.size + 1 + 1, 0, none⟩) 0 0 [] := by
  have hA2 : ∀ (W : World) (o : Obj), Below W.heap.size W (W.alloc o) := fun W o => Below.alloc (Below.refl _ _) (Nat.le_refl _) _
  have h2 := (one_bool (W.alloc (.cells #[.int .i64 0, .int .i64 0, .int .i64 0, .bool false, .int .i64 0, .int .i64 0] T1)) T2).below (hA2 _ (.cells #[] T3)) (Nat.le_refl _)
  rw [World.size_alloc] at h2
  have h3 := no_bools ((W.alloc (.cells #[.int .i64 0, .int .i64 0, .int .i64 0, .bool false, .int .i64 0, .int .i64 0] T1)).alloc (.cells #[.bool true] T2)) T3
  rw [World.size_alloc, World.size_alloc] at h3
  exact ⟨((one_request _ _).below (hA2 _ _) (Nat.le_refl _)).below (hA2 _ _) (Nat.le_refl _), h2, h3⟩
theorem able_some {bs : List Bool} {i : Nat} (h : ableAt bs i = true) : bs[i]? = some true := by unfold ableAt at h; simpa using h
theorem able_lt {bs : List Bool} {i : Nat} (h : ableAt bs i = true) : i < bs.length := (List.getElem?_eq_some_iff.1 (able_some h)).1
theorem impl_ChooseRequest_is (i : Int) (a : Option Addr) (n c : Nat) (es : List Rq) (a2 : Option Addr) (n2 c2 : Nat) (able : List Bool) (a3 : Option Addr) (n3 c3 : Nat) (hit : List Bool) (cap now : Int) (w : World)
    (hi : chosen es able hit cap now = i) (ha : IsStructs rqF 6 w a n c es) (hb : IsBools w a2 n2 c2 able) (hd : IsBools w a3 n3 c3 hit) (hs : n ≤ 1048576) (hs2 : n2 ≤ 1048576) (hs3 : n3 ≤ 1048576) :
    Calls Try.prog 24 #[.slice a n c, .slice a2 n2 c2, .slice a3 n3 c3, .int .i64 cap, .int .i64 now] w fun r w' => r = .returned (.int .i64 i) ∧ Below w.heap.size w w' := by subst hi; exact impl_ChooseRequest a n c es a2 n2 c2 able a3 n3 c3 hit cap now w ha hb hd hs hs2 hs3
theorem spec_ChooseRequest_is (i : Int) (a : Option Addr) (n c : Nat) (es : List Rq) (a2 : Option Addr) (n2 c2 : Nat) (able : List Bool) (a3 : Option Addr) (n3 c3 : Nat) (hit : List Bool) (cap now : Int) (w : World)
    (hi : chosen es able hit cap now = i) (ha : IsStructs rqF 6 w a n c es) (hb : IsBools w a2 n2 c2 able) (hd : IsBools w a3 n3 c3 hit) (hs : n ≤ 1048576) (hs2 : n2 ≤ 1048576) (hs3 : n3 ≤ 1048576) :
    Calls Try.prog 25 #[.slice a n c, .slice a2 n2 c2, .slice a3 n3 c3, .int .i64 cap, .int .i64 now] w fun r w' => r = .returned (.int .i64 i) ∧ Below w.heap.size w w' := by subst hi; exact spec_ChooseRequest a n c es a2 n2 c2 able a3 n3 c3 hit cap now w ha hb hd hs hs2 hs3
set_option maxRecDepth 100000 in
set_option maxHeartbeats 2000000 in
theorem FnChosen_walk (a : Option Addr) (n c : Nat) (zs : List Int) (w : World) (ha : IsInts .u8 w a n c zs) :
    Calls Try.prog 5 #[.slice a n c] w fun e w' => e = .returned (.bool true) ∧ Below w.heap.size w w' := by
  have hm : c ≤ 9223372036854775807 := ha.2.2.1
  have hc := ha.2.1
  by_cases hs : n ≤ 1048576
  · have HA := hide ha
    clear ha
    go_enter Try.func5, Try.ntmps5
    go_wp2_with fail
    refine (laws_big a n c _ hs).mono ?_
    rintro e w' ⟨rfl, rfl⟩
    go_wp2_with fail
    refine (spec_DrawChooseRequest a n c _ _ HA.out hs).mono ?_
    rintro e v1 ⟨a1, m1, c1, es, a2, m2, c2, able, a3, m3, c3, hit, cap, now, hm1, hm2, hm3, hcap0, hcap1, hnow0, hnow1, rfl, hI, hJ, hK, hV⟩
    have HI := hide hI; have HJ := hide hJ; have HK := hide hK
    clear hI hJ hK
    obtain ⟨i, hi⟩ : ∃ i, chosen es able hit cap now = i := ⟨_, rfl⟩
    have HC := hide hi
    clear hi
    go_wp2_with fail
    refine (impl_ChooseRequest_is i _ _ _ es _ _ _ able _ _ _ hit cap now _ HC.out HI.out HJ.out HK.out (by omega) (by omega) (by omega)).mono ?_
    rintro e v2 ⟨rfl, hb2⟩
    have HI2 := hide (HI.out.below hb2 (Nat.le_refl _))
    have HJ2 := hide (HJ.out.below hb2 (Nat.le_refl _))
    have HK2 := hide (HK.out.below hb2 (Nat.le_refl _))
    have hV2 := bthen hV hb2 hV.size
    have hsv := hV.size
    have hsv2 := hb2.size
    by_cases h0 : i < 0
    · go_wp2_with fail
      refine (spec_ChooseRequest_is i _ _ _ es _ _ _ able _ _ _ hit cap now _ HC.out HI2.out HJ2.out HK2.out (by omega) (by omega) (by omega)).mono ?_
      rintro e v3 ⟨rfl, hb3⟩
      have hV3 := bthen hV2 hb3 (by omega)
      have hsv3 := hb3.size
      go_wp2_with fail
      have hZ := zero_choice v3 41 4 4
      have hB0 : Below w.heap.size w (((v3.alloc (.cells #[.int .i64 0, .int .i64 0, .int .i64 0, .bool false, .int .i64 0, .int .i64 0] 41)).alloc (.cells #[.bool true] 4)).alloc (.cells #[] 4)) := Below.alloc (Below.alloc (Below.alloc hV3 (by omega) _) (by go_size) _) (by go_size) _
      generalize ((v3.alloc (.cells #[.int .i64 0, .int .i64 0, .int .i64 0, .bool false, .int .i64 0, .int .i64 0] 41)).alloc (.cells #[.bool true] 4)).alloc (.cells #[] 4) = Z at hZ hB0 ⊢
      have hsz := hB0.size
      refine (impl_ChooseRequest_is 0 (some ⟨v3.heap.size, 0, none⟩) 1 1 [⟨0, 0, 0, false, 0, 0⟩] (some ⟨v3.heap.size + 1, 0, none⟩) 1 1 [true] (some ⟨v3.heap.size + 1 + 1, 0, none⟩) 0 0 [] 5 0 Z chosen_one hZ.1 hZ.2.1 hZ.2.2 (by omega) (by omega) (by omega)).mono ?_
      rintro e v4 ⟨rfl, hb4⟩
      have hBE := bthen hB0 hb4 hsz
      clear hZ hB0
      go_wp2_with fail
      go_ret
      exact ⟨rfl, hBE⟩
    · obtain ⟨ii, e', hie, hee, hable, _, _, _, _, hall⟩ := chosen_ok (show 0 ≤ chosen es able hit cap now by rw [HC.out]; omega)
      obtain rfl : i = (ii : Int) := HC.out.symm.trans hie
      have hi1 : ii < m1 := by have := (List.getElem?_eq_some_iff.1 hee).1; rw [HI.out.1] at this; exact this
      have hi2 : ii < m2 := by have := able_lt hable; rw [HJ.out.1] at this; exact this
      obtain ⟨e, b1, o1, hh_e, rfl, hlb, hcell⟩ := HI.out.get rqF_len (by omega) (show ii < m1 by omega)
      have e0 : v2.cell? ⟨b1, o1 + ii * 6, none⟩ = some (.int .i64 e.id) := (hb2.cell (p := ⟨b1, o1 + (ii * 6 + 0), none⟩) hlb).trans (hcell 0 _ rfl)
      have e1 : v2.cell? ⟨b1, o1 + ii * 6 + 1, none⟩ = some (.int .i64 e.tenant) := (hb2.cell (p := ⟨b1, o1 + (ii * 6 + 1), none⟩) hlb).trans (hcell 1 _ rfl)
      have e2 : v2.cell? ⟨b1, o1 + ii * 6 + 2, none⟩ = some (.int .i64 e.line) := (hb2.cell (p := ⟨b1, o1 + (ii * 6 + 2), none⟩) hlb).trans (hcell 2 _ rfl)
      have e3 : v2.cell? ⟨b1, o1 + ii * 6 + 3, none⟩ = some (.bool e.write) := (hb2.cell (p := ⟨b1, o1 + (ii * 6 + 3), none⟩) hlb).trans (hcell 3 _ rfl)
      have e4 : v2.cell? ⟨b1, o1 + ii * 6 + 4, none⟩ = some (.int .i64 e.data) := (hb2.cell (p := ⟨b1, o1 + (ii * 6 + 4), none⟩) hlb).trans (hcell 4 _ rfl)
      have e5 : v2.cell? ⟨b1, o1 + ii * 6 + 5, none⟩ = some (.int .i64 e.tm) := (hb2.cell (p := ⟨b1, o1 + (ii * 6 + 5), none⟩) hlb).trans (hcell 5 _ rfl)
      have HE_e := hide hh_e
      have sz_e := hb2.size
      have lt_b1 : b1 < v2.heap.size := (by have := hb2.size; omega)
      have lw_b1 := hlb
      have i0_e : (0 : Int) ≤ (ii : Int) := by omega
      have i1_e : (ii : Int) < (m1 : Int) := by omega
      clear hcell hlb hh_e
      obtain rfl : e' = e := by have := hee.symm.trans HE_e.out; injection this
      have HALL := hide hall
      obtain ⟨zi, b6, o6, hz, rfl, hlb6, hcz⟩ := HJ.out.2.2.2.get (k := ii) (by rw [HJ.out.1]; exact hi2)
      obtain rfl : zi = true := by have := (able_of hz).symm.trans hable; exact this
      have g0 := (hb2.cell (p := ⟨b6, o6 + ii, none⟩) hlb6).trans hcz
      have g1 : b6 < v2.heap.size := by omega
      have hj1 : (ii : Int) < (m1 : Int) := by omega
      have hj2 : (ii : Int) < (m2 : Int) := by omega
      clear hcz hz hall hee hie hable
      by_cases hlate : e'.tm ≤ now - cap
      · skip
        go_wp2_with fail
        go_loopw [10] (fun i wr => ∃ k : Nat, k ≤ m1 ∧ i = .int .i64 k ∧ Below v1.heap.size v1 wr) (fun i _ => m1 - (intOf i).toNat)
        case atStart => exact ⟨0, by omega, rfl, hb2⟩
        case round =>
          obtain ⟨k, hk, rfl, hB⟩ := hrel
          have hsr := hB.size
          have hVB := bthen hV hB hV.size
          by_cases hlt : k < m1
          · obtain ⟨f, b', o', hh_f, hbo, hlb, hcell⟩ := HI.out.get rqF_len (by omega) (show k < m1 by omega)
            obtain ⟨rfl, rfl⟩ : b1 = b' ∧ o1 = o' := by injection hbo with hbo; injection hbo with hb1 hb2; exact ⟨hb1, hb2⟩
            clear hbo
            have f0 : wr.cell? ⟨b1, o1 + k * 6, none⟩ = some (.int .i64 f.id) := (hB.cell (p := ⟨b1, o1 + (k * 6 + 0), none⟩) hlb).trans (hcell 0 _ rfl)
            have f1 : wr.cell? ⟨b1, o1 + k * 6 + 1, none⟩ = some (.int .i64 f.tenant) := (hB.cell (p := ⟨b1, o1 + (k * 6 + 1), none⟩) hlb).trans (hcell 1 _ rfl)
            have f2 : wr.cell? ⟨b1, o1 + k * 6 + 2, none⟩ = some (.int .i64 f.line) := (hB.cell (p := ⟨b1, o1 + (k * 6 + 2), none⟩) hlb).trans (hcell 2 _ rfl)
            have f3 : wr.cell? ⟨b1, o1 + k * 6 + 3, none⟩ = some (.bool f.write) := (hB.cell (p := ⟨b1, o1 + (k * 6 + 3), none⟩) hlb).trans (hcell 3 _ rfl)
            have f4 : wr.cell? ⟨b1, o1 + k * 6 + 4, none⟩ = some (.int .i64 f.data) := (hB.cell (p := ⟨b1, o1 + (k * 6 + 4), none⟩) hlb).trans (hcell 4 _ rfl)
            have f5 : wr.cell? ⟨b1, o1 + k * 6 + 5, none⟩ = some (.int .i64 f.tm) := (hB.cell (p := ⟨b1, o1 + (k * 6 + 5), none⟩) hlb).trans (hcell 5 _ rfl)
            have HE_f := hide hh_f
            have sz_f := hB.size
            have lt_b1 : b1 < wr.heap.size := (by have := hB.size; omega)
            have i0_f : (0 : Int) ≤ (k : Int) := by omega
            have i1_f : (k : Int) < (m1 : Int) := by omega
            clear hcell hlb hh_f
            by_cases hk2 : k < m2
            · obtain ⟨z, b2, o2, hz, hq2, hlb2, hcz⟩ := HJ.out.2.2.2.get (k := k) (by rw [HJ.out.1]; exact hk2)
              injection hq2 with hq2
              injection hq2 with hq2 hq3
              subst hq2 hq3
              have z0 := (hB.cell (p := ⟨b6, o6 + k, none⟩) hlb2).trans hcz
              have z1 : b6 < wr.heap.size := by omega
              have HZ := hide (able_of hz)
              have h3 : (k : Int) < (m2 : Int) := by omega
              clear hcz hz
              cases z
              · skip
                go_wp2_with fail
                go_roundw
                case rel => first | exact ⟨k + 1, by omega, by go_num, hB⟩ | exact ⟨k + 1, by omega, by omega⟩
                case measure => simp [intOf]; omega
              · have HH := hide (HALL.out k f HE_f.out HZ.out)
                by_cases hft : f.tm ≤ now - cap
                · have hnk : ¬ (k : Int) < (ii : Int) := by have := (HH.out.1 hft).2; omega
                  go_wp2_with fail
                  go_roundw
                  case rel => first | exact ⟨k + 1, by omega, by go_num, hB⟩ | exact ⟨k + 1, by omega, by omega⟩
                  case measure => simp [intOf]; omega
                · go_wp2_with fail
                  go_roundw
                  case rel => first | exact ⟨k + 1, by omega, by go_num, hB⟩ | exact ⟨k + 1, by omega, by omega⟩
                  case measure => simp [intOf]; omega
            · have h3 : ¬ (k : Int) < (m2 : Int) := by omega
              go_wp2_with fail
              go_ret
              exact ⟨rfl, hVB⟩
          · go_wp2_with fail
            go_ret
            exact ⟨rfl, hVB⟩
      · skip
        go_wp2_with fail
        go_loopw [10] (fun i wr => ∃ k : Nat, k ≤ m1 ∧ i = .int .i64 k ∧ Below v1.heap.size v1 wr) (fun i _ => m1 - (intOf i).toNat)
        case atStart => exact ⟨0, by omega, rfl, hb2⟩
        case round =>
          obtain ⟨k, hk, rfl, hB⟩ := hrel
          have hsr := hB.size
          have hVB := bthen hV hB hV.size
          by_cases hlt : k < m1
          · obtain ⟨f, b', o', hh_f, hbo, hlb, hcell⟩ := HI.out.get rqF_len (by omega) (show k < m1 by omega)
            obtain ⟨rfl, rfl⟩ : b1 = b' ∧ o1 = o' := by injection hbo with hbo; injection hbo with hb1 hb2; exact ⟨hb1, hb2⟩
            clear hbo
            have f0 : wr.cell? ⟨b1, o1 + k * 6, none⟩ = some (.int .i64 f.id) := (hB.cell (p := ⟨b1, o1 + (k * 6 + 0), none⟩) hlb).trans (hcell 0 _ rfl)
            have f1 : wr.cell? ⟨b1, o1 + k * 6 + 1, none⟩ = some (.int .i64 f.tenant) := (hB.cell (p := ⟨b1, o1 + (k * 6 + 1), none⟩) hlb).trans (hcell 1 _ rfl)
            have f2 : wr.cell? ⟨b1, o1 + k * 6 + 2, none⟩ = some (.int .i64 f.line) := (hB.cell (p := ⟨b1, o1 + (k * 6 + 2), none⟩) hlb).trans (hcell 2 _ rfl)
            have f3 : wr.cell? ⟨b1, o1 + k * 6 + 3, none⟩ = some (.bool f.write) := (hB.cell (p := ⟨b1, o1 + (k * 6 + 3), none⟩) hlb).trans (hcell 3 _ rfl)
            have f4 : wr.cell? ⟨b1, o1 + k * 6 + 4, none⟩ = some (.int .i64 f.data) := (hB.cell (p := ⟨b1, o1 + (k * 6 + 4), none⟩) hlb).trans (hcell 4 _ rfl)
            have f5 : wr.cell? ⟨b1, o1 + k * 6 + 5, none⟩ = some (.int .i64 f.tm) := (hB.cell (p := ⟨b1, o1 + (k * 6 + 5), none⟩) hlb).trans (hcell 5 _ rfl)
            have HE_f := hide hh_f
            have sz_f := hB.size
            have lt_b1 : b1 < wr.heap.size := (by have := hB.size; omega)
            have i0_f : (0 : Int) ≤ (k : Int) := by omega
            have i1_f : (k : Int) < (m1 : Int) := by omega
            clear hcell hlb hh_f
            by_cases hk2 : k < m2
            · obtain ⟨z, b2, o2, hz, hq2, hlb2, hcz⟩ := HJ.out.2.2.2.get (k := k) (by rw [HJ.out.1]; exact hk2)
              injection hq2 with hq2
              injection hq2 with hq2 hq3
              subst hq2 hq3
              have z0 := (hB.cell (p := ⟨b6, o6 + k, none⟩) hlb2).trans hcz
              have z1 : b6 < wr.heap.size := by omega
              have HZ := hide (able_of hz)
              have h3 : (k : Int) < (m2 : Int) := by omega
              clear hcz hz
              cases z
              · skip
                go_wp2_with fail
                go_roundw
                case rel => first | exact ⟨k + 1, by omega, by go_num, hB⟩ | exact ⟨k + 1, by omega, by omega⟩
                case measure => simp [intOf]; omega
              · have HH := hide (HALL.out k f HE_f.out HZ.out)
                have hft : ¬ f.tm ≤ now - cap := fun h => by have := (HH.out.1 h).1; omega
                by_cases hk3 : k < m3
                · obtain ⟨y, b3, o3, hy, rfl, hlb3, hcy⟩ := HK.out.2.2.2.get (k := k) (by rw [HK.out.1]; exact hk3)
                  have y0 := (hB.cell (p := ⟨b3, o3 + k, none⟩) hlb3).trans hcy
                  have y1 : b3 < wr.heap.size := by omega
                  have HY := hide (able_of hy)
                  have h4 : (k : Int) < (m3 : Int) := by omega
                  clear hcy hy
                  cases y
                  · skip
                    go_wp2_with fail
                    go_roundw
                    case rel => first | exact ⟨k + 1, by omega, by go_num, hB⟩ | exact ⟨k + 1, by omega, by omega⟩
                    case measure => simp [intOf]; omega
                  · have HQ := hide (HH.out.2 (by omega) HY.out)
                    have hi3 : ii < m3 := by have := able_lt HQ.out; rw [HK.out.1] at this; exact this
                    obtain ⟨x, b7, o7, hx, hq7, hlb7, hcx⟩ := HK.out.2.2.2.get (k := ii) (by rw [HK.out.1]; exact hi3)
                    injection hq7 with hq7
                    injection hq7 with hq7 hq8
                    subst hq7 hq8
                    obtain rfl : x = true := by have := (able_of hx).symm.trans HQ.out; exact this
                    have x0 := (hB.cell (p := ⟨b3, o3 + ii, none⟩) hlb7).trans hcx
                    have hi4 : (ii : Int) < (m3 : Int) := by omega
                    clear hcx hx
                    go_wp2_with fail
                    go_roundw
                    case rel => first | exact ⟨k + 1, by omega, by go_num, hB⟩ | exact ⟨k + 1, by omega, by omega⟩
                    case measure => simp [intOf]; omega
                · have h4 : ¬ (k : Int) < (m3 : Int) := by omega
                  go_wp2_with fail
                  go_roundw
                  case rel => first | exact ⟨k + 1, by omega, by go_num, hB⟩ | exact ⟨k + 1, by omega, by omega⟩
                  case measure => simp [intOf]; omega
            · have h3 : ¬ (k : Int) < (m2 : Int) := by omega
              go_wp2_with fail
              go_ret
              exact ⟨rfl, hVB⟩
          · go_wp2_with fail
            go_ret
            exact ⟨rfl, hVB⟩
  · go_enter Try.func5, Try.ntmps5
    go_wp2_with fail
    refine (laws_big_yes a n c _ hm hc hs).mono ?_
    rintro e w' ⟨rfl, rfl⟩
    go_wp2_with fail
    go_ret
    exact ⟨rfl, by go_grown⟩
set_option maxRecDepth 100000 in
theorem FnChosen_lifted (os : Os) (started : os.Started) (H : Type) (enc : TypeId × Value → H) :
    ReturnsInHanded {} Try.checked os 5 .any (Rows.fnChosenSpec.pre6 enc Try.prog Try.f5 Rows.fnChosenRow.domain false) (Rows.fnChosenSpec.post enc Try.prog Try.f5 false true false false) := by
  refine returnsInHanded_of_change (C := Try.checked) try_own started (by kernel_rfl) Try.func5
    (ChangeSpec.witness6 (enc := enc) (C := Try.checked) false ⟨#[], #[.slice none 0 0], []⟩ 8 (by kernel_rfl) (by kernel_rfl) (by kernel_rfl) (by kernel_rfl)) ?_
  intro W base args ds gs before hval0 hW _ _
  have hval : ∀ (j : Nat) t v, Try.f5.params[j]? = some t → args[j]? = some v → Value.okWide Try.prog W .any base t v := hval0
  have hW' := hW
  obtain ⟨p, q, hA0, hV, rfl, hfz, hnd⟩ := hW
  have hA : DataW.TrodAll enc Try.prog W 0 (fun _ => true) true Try.f5.params.toList args.toList ds p := hA0
  rw [Try.params5] at hA hval
  obtain ⟨v0, vs0, d0, ds0, p0, q0, hargs, rfl, rfl, h0, r0⟩ := trodAll_cons hA
  obtain ⟨rfl, rfl, rfl⟩ := trodAll_nil r0
  obtain rfl : args = #[v0] := by cases args; simp_all
  obtain ⟨rfl, rfl⟩ := trodVars_none hV
  have k0 := h0
  have lt0 : ∀ x ∈ p0, x.block < W.heap.size := by obtain ⟨m, hm⟩ := k0; exact DataW.trod_lt m _ _ _ hm
  obtain ⟨b_x0, m_x0, l_x0, rfl⟩ := okWide_slice Try.underlying22 (hval 0 22 v0 rfl rfl)
  obtain ⟨fu0, h0⟩ := h0
  obtain ⟨a_x0, n_x0, c_x0, x0, e_x0, w_x0⟩ := isBytes_of Try.underlying22 Try.underlying5 (by kernel_rfl) h0
  simp only [Value.cells, List.cons.injEq, and_true] at e_x0
  obtain ⟨q1, q2, q3⟩ : b_x0 = a_x0 ∧ m_x0 = n_x0 ∧ l_x0 = c_x0 := by simpa using e_x0
  replace q1 := q1.symm; replace q2 := q2.symm; replace q3 := q3.symm; subst q1 q2 q3
  clear hA0 hval0
  refine (FnChosen_walk a_x0 n_x0 c_x0 x0 W w_x0).mono fun e W' ⟨he, bel⟩ => ?_
  subst he
  exact ⟨_, rfl, _, _, _, [], _, [], hW', trodAll_mk1 (shut_bool Try.underlying4 _), (trodAll_cons_mk (Below.trod try_laidOut (by kernel_rfl) (of_decide_eq_true (by kernel_rfl)) k0 bel lt0) trodAll_mk0), rfl, bel.frame _, fun h => by cases h⟩

theorem FnChosen_holds : Rows.FnChosenSaid :=
  OpenClaim.holds_of_wide 5 Try.f5 rfl rfl rfl rfl rfl rfl rfl ⟨rfl, rfl, rfl, rfl, rfl⟩ rfl rfl rfl rfl rfl (by kernel_rfl) Try.func5 (by kernel_rfl)
    (of_decide_eq_true (by kernel_rfl)) (by unfold Func.isWrapper; rw [if_neg (of_decide_eq_false (by kernel_rfl))]; exact ⟨rfl, rfl⟩)
    (fun os started H enc _ => FnChosen_lifted os started H enc)
#print axioms FnChosen_holds
end Go.Proofs.Ytahfbhfmhccgoaa
