/- Slices of strings: the laws' copy of an argument, their comparison, and the marks that show that memory is not shared. -/
import Derived.Test.YtheifhjnbpbkhaaDoorTxtW
set_option linter.unusedSimpArgs false
set_option linter.unusedVariables false
namespace Go.Proofs.YtheifhjnbpbkhaaDoor
open Go.RowKit Go.ChangeShapes Go.WideShapes Go.ChangeAt Go.Joins Go.Deep
open Go.ChangeMaps (open_string shut_string)
open Go.Lib (decDigits)
theorem getS_lt {zs : List ByteArray} {i : Nat} (h : i < zs.length) : (zs.map Value.string)[i]? = some (.string (zs[i])) := by simp [h]
theorem IsStrs.below {w w' : World} {a : Option Addr} {n c : Nat} {zs : List ByteArray} {B : Nat} (h : IsStrs w a n c zs) (hb : Below B w w') (hB : w.heap.size ≤ B) : IsStrs w' a n c zs :=
  ⟨h.1, h.2.1, h.2.2.1, h.2.2.2.1, h.2.2.2.2.below hb hB⟩
theorem isStrs_own {w : World} {B : Nat} {E : TypeId} {a : Option Addr} {n c : Nat} {zs : List ByteArray} (h : w.ownsRow B E 1 (.slice a n c) n (zs.map Value.string)) (hw : ∀ s ∈ zs, s.size ≤ maxLen) : IsStrs w a n c zs := by
  obtain ⟨a', c', e, hl, hn, hc, hr⟩ := rowIn_own h
  injection e with e1 e2 e3
  subst e1 e3
  exact ⟨by simpa using hl, hn, hc, hw, hr⟩
theorem isStrs_owned {lo hi : Nat} {w : World} {E : TypeId} {a : Option Addr} {n c : Nat} {zs : List ByteArray} (h : Owned lo hi w E 1 a n c (zs.map Value.string)) (hw : ∀ s ∈ zs, s.size ≤ maxLen) : IsStrs w a n c zs :=
  ⟨by simpa using h.row.1, h.row.2.1, h.row.2.2.1, hw, h.row.2.2.2⟩

set_option maxHeartbeats 400000 in
theorem laws_eqStringS (a b : Option Addr) (n c c' : Nat) (zs : List ByteArray) (w : World) (ha : IsStrs w a n c zs) (hb : IsStrs w b n c' zs) :
    Calls Tryd.prog 46 #[.slice a n c, .slice b n c'] w fun e w' => e = .returned (.bool true) ∧ Below w.heap.size w w' := by
  obtain ⟨hn, hc, hm, _, hr⟩ := ha
  obtain ⟨hn', hc', hm', _, hr'⟩ := hb
  unfold maxLen at hm
  have Hr := hide hr; have Hr' := hide hr'
  clear hr hr'
  go_enter Tryd.func46, Tryd.ntmps46
  go_wp2
  go_loopw [5] (fun i wr => ∃ k : Nat, k ≤ n ∧ i = .int .i64 k ∧ Below w.heap.size w wr) (fun i _ => n - (intOf i).toNat)
  case atStart => exact ⟨0, by omega, rfl, Below.refl _ _⟩
  case round =>
    obtain ⟨k, hk, rfl, hB⟩ := hrel
    by_cases hlt : k < n
    · obtain ⟨b1, o1, rfl, hc1⟩ := Hr.out k _ (getS_lt (by omega))
      obtain ⟨b2, o2, rfl, hc2⟩ := Hr'.out k _ (getS_lt (by omega))
      have e1 := (hB.cell (p := ⟨b1, o1 + k, none⟩) (World.block_lt_of_cell? w _ hc1)).trans hc1
      have e2 := (hB.cell (p := ⟨b2, o2 + k, none⟩) (World.block_lt_of_cell? w _ hc2)).trans hc2
      clear hc1 hc2
      have h1 : (0 : Int) ≤ (k : Int) := by omega
      have h2 : (k : Int) < (n : Int) := by omega
      go_wp2_with fail
      go_quiet (fail)
      go_wp2
      go_roundw
      case rel => exact ⟨k + 1, by omega, by go_num, bdrawn hB _⟩
      case measure => simp [intOf]; omega
    · go_wp2
      go_ret
      exact ⟨rfl, hB⟩

theorem info_string : (Tryd.prog.info? 9).map (fun i => (i.zero, i.size, i.bytes)) = some (some (.string { data := #[] }), 1, 16) := by kernel_rfl

set_option maxHeartbeats 400000 in
theorem laws_toStringS (a : Option Addr) (n c : Nat) (zs : List ByteArray) (w : World) (ha : IsStrs w a n c zs) (hs : n ≤ 1048576) :
    Calls Tryd.prog 51 #[.slice a n c] w (Fresh w 9 1 n (zs.map Value.string)) := by
  obtain ⟨hn, hc, hm, _, hr⟩ := ha
  obtain ⟨i0, hi, hz0, hz1, hz2⟩ := info_parts info_string
  have Hr := hide hr; have HN := hide hn
  clear hr hm hn
  go_enter Tryd.func51, Tryd.ntmps51
  go_wp2_with (at_make; refine wpList_make_full _ rfl _ _ 33 rfl w.heap.size 9 i0 (.string { data := #[] }) 1 Tryd.underlying33 hi hz0 hz1 _ _ _ _ n rfl rfl rfl rfl (by rw [hz2]; omega) (by unfold maxLen; omega) (Nat.le_refl _) ?_; intro w0 hown hg; have hb0 : Below w.heap.size w w0 := (Below.refl _ _).grown hg (Nat.le_refl _) (fun k h => by cases h))
  go_loopw [4] (fun i wr => ∃ k : Nat, k ≤ n ∧ i = .int .i64 k ∧ Below w.heap.size w wr ∧ wr.ownsRow w.heap.size 9 1 (.slice (some ⟨w.heap.size, 0, none⟩) n n) n ((zs.map (Value.string)).take k ++ List.replicate (n - k) (.string { data := #[] }))) (fun i _ => n - (intOf i).toNat)
  case atStart =>
    refine ⟨0, by omega, rfl, hb0, ?_⟩
    have := hown
    rw [Nat.mul_one, show (Value.string { data := #[] }).cells = #[.string { data := #[] }] from rfl, toList_madeCells_one] at this
    simpa using this
  case round =>
    clear hown hg hb0
    obtain ⟨k, hk, rfl, hB, hown⟩ := hrel
    by_cases hlt : k < n
    · obtain ⟨b1, o1, rfl, hc1⟩ := Hr.out k _ (getS_lt (by rw [HN.out]; omega))
      have e1 := (hB.cell (p := ⟨b1, o1 + k, none⟩) (World.block_lt_of_cell? w _ hc1)).trans hc1
      have h1 : (0 : Int) ≤ (k : Int) := by omega
      have h2 : (k : Int) < (n : Int) := by omega
      have e2 := hown.cellAt k (by omega)
      rw [List.getElem?_eq_getElem (by rw [hown.1]; omega)] at e2
      have e3 := hown.frozenAt k
      have hst := hown.stored k (Value.string (zs[k]'(by rw [HN.out]; omega)))
      have hst1 := hide hst.1; have hst2 := hide hst.2
      clear hst hc1
      go_wp2
      go_roundw
      case rel =>
        refine ⟨k + 1, by omega, by go_num, hB.setCell (Nat.le_refl _) _, ?_⟩
        have hx := set_next (zs.map (Value.string)) (.string { data := #[] }) k n hlt (by rw [List.length_map, HN.out])
        simp only [List.getElem_map] at hx
        rw [← hx]
        exact hst1.out
      case measure => simp [intOf]; omega
    · go_wp2
      go_ret
      obtain rfl : k = n := by omega
      refine ⟨_, _, rfl, ?_, hB⟩
      have := hown
      rw [List.take_of_length_le (by rw [List.length_map, HN.out]; exact Nat.le_refl _), Nat.sub_self, List.replicate_zero, List.append_nil] at this
      exact this

/-- The mark number k. -/
def mkT (k : Int) : ByteArray := strOf (109 :: decI k)
def markS (k0 : Int) (n : Nat) : List ByteArray := (List.range n).map fun (i : Nat) => mkT (k0 + (i : Int))
theorem markS_len (k0 : Int) (n : Nat) : (markS k0 n).length = n := by simp [markS]
theorem markS_at (k0 : Int) (n k : Nat) (h : k < n) : (markS k0 n)[k]? = some (mkT (k0 + (k : Int))) := by simp [markS, List.getElem?_range h]
theorem mkT_size {k : Int} (h0 : 0 ≤ k) (h1 : k ≤ 1000000000000) : (mkT k).size ≤ 14 := by
  have := dec_len k.toNat 12 (by omega)
  unfold mkT; rw [strOf_size]; unfold decI; simp only [List.length_cons]; omega
theorem markS_short {k0 : Int} {n : Nat} (h0 : 0 ≤ k0) (h1 : k0 ≤ 1000000000) (hn : n ≤ 1048576) : ∀ s ∈ markS k0 n, s.size ≤ maxLen := by
  intro s hs
  simp only [markS, List.mem_map, List.mem_range] at hs
  obtain ⟨i, hi, rfl⟩ := hs
  have := mkT_size (k := k0 + (i : Int)) (by omega) (by omega)
  unfold maxLen; omega

set_option maxRecDepth 100000 in
set_option maxHeartbeats 2000000 in
theorem laws_markText (z : Int) (w : World) (h : 1 ≤ z) (h1 : z ≤ 1000000000000) :
    Calls Tryd.prog 61 #[.int .i64 z] w fun e w' => e = .returned (.string (mkT z)) ∧ Below w.heap.size w w' := by
  obtain ⟨u, rfl⟩ : ∃ u : Nat, z = (u : Int) := ⟨z.toNat, by omega⟩
  have hu : u ≠ 0 := by omega
  have hle : decide ((u : Int) ≤ 0) = false := by simp; omega
  go_enter Tryd.func61, Tryd.ntmps61
  go_wp2_with fail
  go_loopw [0, 3] (fun n s wr => ∃ (v : Nat) (t : List UInt8), v ≤ u ∧ n = .int .i64 v ∧ s = .string (strOf t) ∧ Hid (FmtRel u v t) ∧ Below w.heap.size w wr) (fun n _ _ => (intOf n).toNat)
  case atStart => exact ⟨u, [], Nat.le_refl _, rfl, rfl, hide ⟨fun _ => by simp, fun h => absurd h hu⟩, Below.refl _ _⟩
  case round =>
    obtain ⟨v, t, hv, rfl, rfl, HT, hB⟩ := hrel
    by_cases h0 : v = 0
    · subst h0
      have HF : Hid (t = decI (u : Int)) := hide (by rw [HT.out.2 rfl]; rfl)
      have hl : (decI (u : Int)).length ≤ 13 := by have := dec_len u 12 (by omega); unfold decI; simpa using this
      have a1 : ∀ w : World, (Op.stringOp .add { data := #[109] } (strOf t)).run Tryd.prog w = .ok (.string (mkT (u : Int))) w := by
        rw [HF.out]; exact add_run (x := [109]) rfl (by simp; omega)
      go_wp2_with fail
      go_ret
      exact ⟨rfl, hB⟩
    · have hgt : decide ((v : Int) > 0) = true := by simp; omega
      obtain ⟨d, hd⟩ : ∃ d : Nat, v % 10 = d := ⟨_, rfl⟩
      obtain ⟨q, hq⟩ : ∃ q : Nat, v / 10 = q := ⟨_, rfl⟩
      have hm0 : (v : Int).tmod 10 = (d : Int) := by rw [Int.tmod_eq_emod_of_nonneg (by omega)]; omega
      have hd0 : (v : Int).tdiv 10 = (q : Int) := by rw [Int.tdiv_eq_ediv_of_nonneg (by omega)]; omega
      have hsw := hB.size
      obtain ⟨c, hc⟩ : ∃ c : UInt8, UInt8.ofNat (48 + d) = c := ⟨_, rfl⟩
      obtain ⟨cz, hcz⟩ : ∃ cz : Int, (c.toNat : Int) = cz := ⟨_, rfl⟩
      have hcc : ((48 : Int) + (d : Int)) = cz := by rw [← hcz, ← hc]; simp [UInt8.toNat_ofNat']; omega
      have hcv : (convert 48 9 (.slice (some ⟨wr.heap.size, 0, none⟩) 1 1)).run Tryd.prog (wr.alloc (.cells #[.int .u8 cz] 5)) = .ok (.string (strOf [c])) (wr.alloc (.cells #[.int .u8 cz] 5)) :=
        run_convert_bytes_back _ _ _ 5 _ 1 [c] Tryd.underlying48 Tryd.underlying5 Tryd.underlying9 (fun j hj => by
          obtain rfl : j = 0 := by simpa using hj
          have := cell_blk (w := wr.alloc (.cells #[.int .u8 cz] 5)) (alloc_at wr _ _ rfl) 0
          rw [List.getElem_singleton, hcz]; exact this)
      have hcb : 0 ≤ cz ∧ cz ≤ 57 := by omega
      obtain ⟨hcb1, hcb2⟩ := hcb
      have hd9 : d ≤ 9 := by omega
      have htl : t.length ≤ 20 := by
        have e1 := congrArg List.length (HT.out.1 h0)
        have e2 := dec_len u 12 (by omega)
        rw [List.length_append] at e1
        omega
      have a1 := add_run (x := [c]) (y := t) (z := c :: t) rfl (by simp; omega)
      have HN := hide (HT.out.next h0)
      have HC := hide hc
      have HD := hide hd; have HQ := hide hq
      have hqb : (q : Int) ≤ 1000000000000 := by omega
      have hqv : q < v := by omega
      clear hc hd hq hcz
      go_wp2_with fail
      go_roundw
      case rel =>
        refine ⟨q, c :: t, by omega, rfl, rfl, hide ?_, ?_⟩
        · rw [← HQ.out, ← HC.out, ← HD.out]; exact HN.out
        · exact Below.alloc hB hsw _
      case measure => simp [intOf]; omega
def MarkedS (lo hi : Nat) (w : World) (a : Option Addr) (n c : Nat) (k0 : Int) (e : Ending) (w' : World) : Prop :=
  e = .returned (.int .i64 (k0 + n)) ∧ Owned lo hi w' 9 1 a n c ((markS k0 n).map Value.string) ∧ Save lo hi w w'
set_option maxHeartbeats 1000000 in
theorem laws_markStringS (lo hi : Nat) (a : Option Addr) (n c : Nat) (k0 : Int) (xs : List Value) (w : World) (hk0 : 1 ≤ k0 ∧ k0 ≤ 1000000000) (hs : n ≤ 1048576) (hh : hi ≤ w.heap.size) (ho : Owned lo hi w 9 1 a n c xs) :
    Calls Tryd.prog 47 #[.slice a n c, .int .i64 k0] w (MarkedS lo hi w a n c k0) := by
  have hk1 := hk0.1; have hk2 := hk0.2
  clear hk0
  have hxl := hide ho.row.1
  have hc := ho.row.2.1
  have hm : c ≤ 9223372036854775807 := ho.row.2.2.1
  go_enter Tryd.func47, Tryd.ntmps47
  go_wp2
  go_loopw [1, 5] (fun v i wr => ∃ k : Nat, k ≤ n ∧ i = .int .i64 k ∧ v = .int .i64 (k0 + k) ∧ Owned lo hi wr 9 1 a n c (((markS k0 n).map Value.string).take k ++ xs.drop k) ∧ Save lo hi w wr) (fun _ i _ => n - (intOf i).toNat)
  case atStart => exact ⟨0, by omega, rfl, by simp, by simpa using ho, Save.refl _ _ _⟩
  case round =>
    clear ho
    obtain ⟨k, hk, rfl, rfl, hO, hS⟩ := hrel
    by_cases hlt : k < n
    · have hsz : w.heap.size ≤ wr.heap.size := hS.size
      have HM := hide (markS_at k0 n k hlt)
      have HO := hide hO
      have h1 : (0 : Int) ≤ (k : Int) := by omega
      have h2 : (k : Int) < (n : Int) := by omega
      clear hO
      go_wp2_with fail
      refine (laws_markText (k0 + k) _ (by omega) (by omega)).mono ?_
      rintro e w1 ⟨rfl, hb1⟩
      have hO1 := HO.out.below hb1 (by omega)
      obtain ⟨g, rfl, hg1, hg2, hg3, hcell, hfr⟩ := hO1.some (by omega)
      obtain ⟨u, e1⟩ : ∃ u, w1.cell? ⟨g, k, none⟩ = some u := ⟨_, (hcell k (by omega)).trans (List.getElem?_eq_getElem (by rw [hO1.1.1]; omega))⟩
      have e2 := hfr k
      have HO1 := hide hO1
      have HB1 := hide hb1
      clear hO1 hcell hfr hb1
      go_wp2
      go_roundw
      case rel =>
        obtain ⟨h3, h4⟩ := HO1.out.store k (.string (mkT (k0 + (k : Int))))
        refine ⟨k + 1, by omega, by go_num, by simp; omega, ?_, (hS.trans (Save.of_below HB1.out)).trans h4⟩
        rw [over_next _ _ k n hlt (by simp [markS_len]) hxl.out _ (by rw [List.getElem?_map, HM.out]; rfl)] at h3
        exact h3
      case measure => simp [intOf]; omega
    · go_wp2
      go_ret
      obtain rfl : k = n := by omega
      rw [List.take_of_length_le (by simp [markS_len]), List.drop_eq_nil_of_le (by rw [hxl.out]; exact Nat.le_refl _), List.append_nil] at hO
      exact ⟨rfl, hO, hS⟩
theorem keep_s1 {w v : World} {b o : Nat} {x : Value} (hl : b < w.heap.size) (e : w.cell? ⟨b, o, none⟩ = some x) (hb : Below w.heap.size w v) : v.cell? ⟨b, o, none⟩ = some x ∧ Below w.heap.size w v := ⟨((bcell hb).1 b o hl).trans e, hb⟩
set_option maxHeartbeats 1000000 in
theorem laws_heldStringS (a : Option Addr) (n c : Nat) (k0 : Int) (w : World) (hk0 : 1 ≤ k0 ∧ k0 ≤ 1000000000) (hs : n ≤ 1048576) (hb : IsStrs w a n c (markS k0 n)) :
    Calls Tryd.prog 48 #[.slice a n c, .int .i64 k0] w fun e w' => e = .returned (.int .i64 (k0 + n)) ∧ Below w.heap.size w w' := by
  have hk1 := hk0.1; have hk2 := hk0.2
  clear hk0
  obtain ⟨hn, hc, hm, _, hr⟩ := hb
  have Hr := hide hr
  clear hr hm hn
  go_enter Tryd.func48, Tryd.ntmps48
  go_wp2
  go_loopw [1, 5] (fun v i wr => ∃ k : Nat, k ≤ n ∧ i = .int .i64 k ∧ v = .int .i64 (k0 + k) ∧ Below w.heap.size w wr) (fun _ i _ => n - (intOf i).toNat)
  case atStart => exact ⟨0, by omega, rfl, by simp, Below.refl _ _⟩
  case round =>
    obtain ⟨k, hk, rfl, rfl, hB⟩ := hrel
    by_cases hlt : k < n
    · obtain ⟨z, b1, o1, hz, rfl, hlb, hc1⟩ := Hr.out.get (k := k) (by rw [markS_len]; exact hlt)
      rw [markS_at k0 n k hlt] at hz
      injection hz with hz
      subst hz
      have hc2 : w.cell? ⟨b1, o1 + k, none⟩ = some (.string (mkT (k0 + (k : Int)))) := hc1
      have h1 : (0 : Int) ≤ (k : Int) := by omega
      have h2 : (k : Int) < (n : Int) := by omega
      clear hc1
      go_wp2_with fail
      go_region_held3 (fun u => u.cell? ⟨b1, o1 + k, none⟩ = some (.string (mkT (k0 + (k : Int)))) ∧ Below w.heap.size w u) (first | (refine keep_s1 hlb hc2 ?_; (try go_split_ands); (repeat' (first | (with_reducible assumption) | (with_reducible refine Below.alloc ?_ ?_ _) | (with_reducible refine Below.drew ?_) | (with_reducible refine Below.setCell ?_ ?_ _) | (with_reducible exact Below.refl _ _) | (with_reducible exact Nat.le_refl _) | omega | (simp only [World.size_alloc, World.size_setCell, World.size_drew] <;> omega))); done)) (first | (go_at_call 61; refine (laws_markText (k0 + k) _ (by omega) (by omega)).mono ?_; rintro ex y ⟨rfl, hy⟩; have hWy : Below w.heap.size w y := bthenS (by (try go_split_ands); (repeat' (first | (with_reducible assumption) | (with_reducible refine Below.alloc ?_ ?_ _) | (with_reducible refine Below.drew ?_) | (with_reducible refine Below.setCell ?_ ?_ _) | (with_reducible exact Below.refl _ _) | (with_reducible exact Nat.le_refl _) | omega | (simp only [World.size_alloc, World.size_setCell, World.size_drew] <;> omega))); done) hy))
      go_wp2_with fail
      go_roundw
      case rel => exact ⟨k + 1, by omega, by go_num, by simp; omega, hWy⟩
      case measure => simp [intOf]; omega
    · go_wp2
      go_ret
      obtain rfl : k = n := by omega
      exact ⟨rfl, hB⟩
end Go.Proofs.YtheifhjnbpbkhaaDoor
