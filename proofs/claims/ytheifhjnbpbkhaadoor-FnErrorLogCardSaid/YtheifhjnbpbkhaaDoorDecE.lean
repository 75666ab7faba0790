/- Reading an error log's text, the program's side: strings.Split at one byte, and DecodeErrors. -/
import Derived.Test.YtheifhjnbpbkhaaDoorDecI
import Derived.Test.YtheifhjnbpbkhaaDoorStrs
import Derived.Test.YtheifhjnbpbkhaaDoorErrAdd
set_option linter.unusedSimpArgs false
set_option linter.unusedVariables false
namespace Go.Proofs.YtheifhjnbpbkhaaDoor
open Go.RowKit Go.ChangeShapes Go.WideShapes Go.ChangeAt Go.Joins Go.Deep
open Go.ChangeMaps (open_string shut_string)
theorem split_cases (c : UInt8) : ∀ s : List UInt8, c ∉ s ∨ ∃ a b, s = a ++ c :: b ∧ c ∉ a
  | [] => .inl (by simp)
  | d :: s => by
    by_cases h : d = c
    · exact .inr ⟨[], s, by rw [h]; rfl, by simp⟩
    · rcases split_cases c s with h1 | ⟨a, b, rfl, h1⟩
      · exact .inl (by simp [h1, Ne.symm h])
      · exact .inr ⟨d :: a, b, rfl, by simp [h1, Ne.symm h]⟩
theorem index_miss {s : List UInt8} {c : UInt8} (h : c ∉ s) : Go.Lib.index s [c] = -1 := Go.Lib.index_none fun j _ => by
  rw [occ_one]
  cases e : s[j]? with
  | none => rfl
  | some d =>
    have := List.mem_of_getElem? e
    have hd : d ≠ c := fun e => h (e ▸ this)
    simpa using hd
theorem index_hit {a b : List UInt8} {c : UInt8} (h : c ∉ a) : Go.Lib.index (a ++ c :: b) [c] = (a.length : Int) := Go.Lib.index_first (by simp) (by rw [occ_one]; simp) fun j hj => by
  rw [occ_one, List.getElem?_append_left hj, List.getElem?_eq_getElem hj]
  have : a[j] ≠ c := fun e => h (e ▸ List.getElem_mem hj)
  simpa using this
theorem split_len (c : UInt8) : ∀ (n : Nat) (s : List UInt8), s.length ≤ n → (Go.Lib.split s [c]).length = Go.Lib.count s [c] + 1 ∧ Go.Lib.count s [c] ≤ s.length ∧ ∀ p ∈ Go.Lib.split s [c], p.length ≤ s.length := by
  intro n
  induction n with
  | zero =>
    intro s hs
    obtain rfl : s = [] := List.length_eq_zero_iff.1 (by omega)
    rw [split_miss (by simp), Go.Lib.count_miss (index_miss (by simp))]
    exact ⟨rfl, Nat.le_refl _, fun p hp => by rw [List.mem_singleton.1 hp]; exact Nat.le_refl _⟩
  | succ n ih =>
    intro s hs
    rcases split_cases c s with h | ⟨a, b, rfl, h⟩
    · rw [split_miss h, Go.Lib.count_miss (index_miss h)]
      exact ⟨rfl, Nat.zero_le _, fun p hp => by rw [List.mem_singleton.1 hp]; exact Nat.le_refl _⟩
    · simp only [List.length_append, List.length_cons] at hs
      obtain ⟨i1, i2, i3⟩ := ih b (by omega)
      have hd : (a ++ c :: b).drop (a.length + [c].length) = b := by simp
      rw [split_hit h, Go.Lib.count_hit (by simp) (index_hit h), hd, List.length_cons, i1]
      simp only [List.length_append, List.length_cons]
      refine ⟨by omega, by omega, fun p hp => ?_⟩
      rcases List.mem_cons.1 hp with rfl | hp
      · omega
      · have := i3 p hp; omega
def toL (b : ByteArray) : List UInt8 := b.data.toList
theorem split_one (s : ByteArray) (c : UInt8) (w : World) (hG : Good w) (hs : s.size ≤ 1048576) :
    Calls Tryd.prog 44 #[.string s, .string ⟨#[c]⟩] w fun e w' => ∃ (ws : List ByteArray) (M : Nat), ws.length = M ∧ e = .returned (.slice (some ⟨w.heap.size, 0, none⟩) M M) ∧ Hid (ws.map toL = Go.Lib.split (toL s) [c]) ∧ IsStrs w' (some ⟨w.heap.size, 0, none⟩) M M ws ∧ 1 ≤ M ∧ M ≤ s.size + 1 ∧ Hid (∀ b ∈ ws, b.size ≤ s.size) ∧ Below w.heap.size w w' := by
  obtain ⟨m, hm⟩ := hG.2
  refine (Tryd.strings_Split s ⟨#[c]⟩ m w (by omega) hm (Nat.le_refl _)).mono ?_
  rintro e w' ⟨rfl, rfl⟩
  have hd := Go.Lib.splitB_data ⟨#[c]⟩ 0 (Go.Lib.countB s ⟨#[c]⟩) s
  have hd2 : (Go.Lib.splitB ⟨#[c]⟩ 0 (Go.Lib.countB s ⟨#[c]⟩) s).map toL = Go.Lib.split (toL s) [c] := hd
  obtain ⟨l1, l2, l3⟩ := split_len c _ (toL s) (Nat.le_refl _)
  have hl : (Go.Lib.splitB ⟨#[c]⟩ 0 (Go.Lib.countB s ⟨#[c]⟩) s).length = Go.Lib.countB s ⟨#[c]⟩ + 1 := by
    have := congrArg List.length hd2
    rw [List.length_map, l1] at this
    exact this
  have hcl : Go.Lib.countB s ⟨#[c]⟩ ≤ s.size := by
    have h1 : (toL s).length = s.size := by simp [toL]
    have h2 : Go.Lib.countB s ⟨#[c]⟩ = Go.Lib.count (toL s) [c] := rfl
    omega
  have hsz : ∀ b ∈ Go.Lib.splitB ⟨#[c]⟩ 0 (Go.Lib.countB s ⟨#[c]⟩) s, b.size ≤ s.size := by
    intro b hb
    have := l3 (toL b) (by rw [← hd2]; exact List.mem_map_of_mem hb)
    have h1 : (toL s).length = s.size := by simp [toL]
    have h2 : (toL b).length = b.size := by simp [toL]
    omega
  refine ⟨Go.Lib.splitB ⟨#[c]⟩ 0 (Go.Lib.countB s ⟨#[c]⟩) s, _, hl, rfl, hide hd2, ⟨hl, Nat.le_refl _, by unfold maxLen; omega, fun b hb => by have := hsz b hb; unfold maxLen; omega, ?_⟩, by omega, by omega, hide hsz, Below.alloc (Below.refl _ _) (Nat.le_refl _) _⟩
  intro i v hv
  refine ⟨_, _, rfl, ?_⟩
  rw [Nat.zero_add, cell_blk (alloc_at _ _ _ rfl)]
  simpa using hv
theorem strs_cell {w : World} {b n c k : Nat} {ws : List ByteArray} {x : ByteArray} (h : IsStrs w (some ⟨b, 0, none⟩) n c ws) (hk : ws[k]? = some x) : w.cell? ⟨b, k, none⟩ = some (.string x) := by
  obtain ⟨b', off, e, hc⟩ := h.2.2.2.2 k (.string x) (by rw [List.getElem?_map, hk]; rfl)
  injection e with e
  injection e with e1 e2
  subst e1 e2
  rwa [Nat.zero_add] at hc
/-- What a decoder leaves: a number, a list in new memory, and whether there was a version. -/
def GotDec (w : World) (n : Int) (K : Nat) (es : List En) (ok : Bool) (e : Ending) (w' : World) : Prop :=
  ∃ a c, e = .returned (.tuple #[.int .i64 n, .slice a K c, .bool ok]) ∧ w'.ownsRow w.heap.size 58 3 (.slice a K c) K (es.flatMap enF) ∧ Below w.heap.size w w'
theorem own_next {w w' : World} {base sz n : Nat} {e : TypeId} {v : Value} {xs : List Value} (h : w.ownsRow base e sz v n xs) (hb : Below w.heap.size w w') : w'.ownsRow base e sz v n xs := by
  refine ⟨h.1, h.2.imp id ?_⟩
  rintro ⟨g, cap, cur, hv, hg, hh, r⟩
  exact ⟨g, cap, cur, hv, hg, (hb.block g (lt_blk hh)).trans hh, r⟩
theorem mid_at {ws : List ByteArray} {M k : Nat} {x : ByteArray} (hM : ws.length = M) (hk : k < M - 1 - 1) (hx : ws[k + 1]? = some x) : (midW (ws.map toL))[k]? = some (toL x) := by
  unfold midW
  rw [List.getElem?_take, if_pos (by rw [List.length_map]; omega), List.getElem?_drop, List.getElem?_map, Nat.add_comm, hx]; rfl
theorem mid_len {ws : List ByteArray} {M : Nat} (hM : ws.length = M) : (midW (ws.map toL)).length = M - 1 - 1 := by
  unfold midW; rw [List.length_take, List.length_drop, List.length_map]; omega
theorem okMid_next {l : List (List UInt8)} {k : Nat} {x : List UInt8} {e : En} (h : okMid (l.take k) = true) (hx : l[k]? = some x) (he : ent1 x = some e) : okMid (l.take (k + 1)) = true ∧ midEs (l.take (k + 1)) = midEs (l.take k) ++ [e] := by
  unfold okMid midEs at *
  rw [take_snoc hx, List.all_append, h, List.filterMap_append]
  simp [he]
theorem okMid_no {l : List (List UInt8)} {k : Nat} {x : List UInt8} (hx : l[k]? = some x) (he : ent1 x = none) : okMid l = false := by
  unfold okMid
  cases h1 : l.all fun w => (ent1 w).isSome with
  | false => rfl
  | true =>
    have := List.all_eq_true.1 h1 x (List.mem_of_getElem? hx)
    rw [he] at this; cases this
theorem ent1_three {x a b c : List UInt8} (h : Go.Lib.split x [58] = [a, b, c]) : ent1 x = some ⟨pU a, pU b, pU c⟩ := by unfold ent1; rw [h]
theorem ent1_not {x : List UInt8} {n : Nat} (h : (Go.Lib.split x [58]).length = n) (hn : n ≠ 3) : ent1 x = none := by
  unfold ent1
  split
  · next h' => rw [h'] at h; simp at h; omega
  · rfl
theorem dcdI_bad {t : List UInt8} (h : okMid (midW (Go.Lib.split t [32])) = false) : dcdI t = none := by
  unfold dcdI; rw [if_neg (by rw [h]; simp)]
def decN (r : Option (Int × List En)) : Int := (r.map (·.1)).getD 0
def decL (r : Option (Int × List En)) : List En := (r.map (·.2)).getD []
set_option maxRecDepth 100000 in
set_option maxHeartbeats 4000000 in
theorem impl_DecodeErrors (s : ByteArray) (n : Int) (K : Nat) (es : List En) (ok : Bool) (w : World) (hs : s.size ≤ 1048576) (hn : decN (dcdI (toL s)) = n) (hes : decL (dcdI (toL s)) = es) (hK : es.length = K) (hok : (dcdI (toL s)).isSome = ok) (hG : Good w) :
    Calls Tryd.prog 16 #[.string s] w (GotDec w n K es ok) := by
  have HN := hide hn; have HES := hide hes; have HK := hide hK; have HOK := hide hok; have HG := hide hG
  clear hn hes hK hok hG
  obtain ⟨i0_En, hi_En, hz0_En, hz1_En, hz2_En⟩ := info_parts info_En
  go_enter Tryd.func16, Tryd.ntmps16
  go_wp2_with fail
  refine (split_one s 32 _ HG.out hs).mono ?_
  rintro e w1 ⟨ws, M, hM, rfl, HW, hI1, hM1, hM2, HSZ, hB1⟩
  obtain ⟨x0, hx0⟩ : ∃ x, ws[0]? = some x := ⟨_, List.getElem?_eq_getElem (by omega)⟩
  have c0 := strs_cell hI1 hx0
  have hl0 := World.block_lt_of_cell? _ _ c0
  have hx0s := HSZ.out x0 (List.mem_of_getElem? hx0)
  have z1 : (0 : Int) < (M : Int) := by omega
  have HI1 := hide hI1; have HX0 := hide hx0; have HM := hide hM
  clear hI1 hx0 hM
  go_wp2_with fail
  refine (impl_ParseUint x0 _ _ _ rfl rfl (by omega)).mono ?_
  rintro e w' ⟨rfl, rfl⟩
  obtain ⟨v0, hv0⟩ : ∃ v, pU x0.data.toList = v := ⟨_, rfl⟩
  obtain ⟨ok0, hok0⟩ : ∃ v, pUok x0.data.toList = v := ⟨_, rfl⟩
  rw [hv0, hok0]
  have HV0 := hide hv0
  clear hv0 hok0 c0
  by_cases hM1' : M = 1
  · obtain ⟨H, hH⟩ : ∃ H, M - 1 - 1 = H := ⟨_, rfl⟩
    have hmx : max (1 : Int) 0 = 1 := rfl
    subst hM1'
    go_wp2_with fail
    have HH := hide hH
    have hHb : H ≤ 0 := by omega
    clear hH hmx
    go_loopw [30, 8] (fun i v wr => ∃ (k : Nat) (a' : Option Addr) (c' : Nat) (L : List En), k ≤ H ∧ i = .int .i64 k ∧ v = .slice a' k c' ∧ Hid (okMid ((midW (ws.map toL)).take k) = true) ∧ Hid (midEs ((midW (ws.map toL)).take k) = L ∧ L.length = k) ∧ wr.ownsRow w1.heap.size 58 3 (.slice a' k c') k (L.flatMap enF) ∧ Below w1.heap.size w1 wr) (fun i _ _ => H - (intOf i).toNat)
    case atStart => exact ⟨0, _, _, [], Nat.zero_le _, rfl, rfl, hide (by simp [okMid]), hide ⟨by simp [midEs], rfl⟩, World.ownsRow_made w1 #[] 0 (Nat.le_refl _) (by decide) rfl, Below.alloc (Below.refl _ _) (Nat.le_refl _) _⟩
    case round =>
      obtain ⟨k, a', c', L, hk, rfl, rfl, HOKM, HL, hown, hB⟩ := hrel
      have hsz := hB.size
      by_cases hlt : k < H
      · exfalso; omega
      · obtain rfl : k = H := by omega
        have hall : (midW (ws.map toL)).take k = midW (ws.map toL) := List.take_of_length_le (by rw [mid_len HM.out]; have := HH.out; omega)
        rw [hall] at HOKM HL
        rw [HW.out] at HOKM HL
        have hhd : (Go.Lib.split (toL s) [32]).headD [] = toL x0 := by
          rw [← HW.out]
          have := HX0.out
          cases ws with
          | nil => simp at this
          | cons a ws => simp at this; rw [this]; rfl
        have hv0 : pU ((Go.Lib.split (toL s) [32]).headD []) = v0 := by rw [hhd]; exact HV0.out
        have hdc : dcdI (toL s) = if toL s ≠ [] ∧ enc v0 L = toL s then some (v0, L) else none := by
          unfold dcdI; rw [hv0, HL.out.1, HOKM.out]; simp
        have HD := hide hdc
        have HO := hide hown
        clear hall hhd hv0 hdc hown
        have hL6 := HL.out.2
        have HIS := hide (isStructs_own enF_len (by omega) HO.out)
        by_cases hs0 : s.toList = []
        · have hs1 : toL s = [] := by unfold toL; rw [← ByteArray.toList_eq]; exact hs0
          have hnone : dcdI (toL s) = none := by rw [HD.out, if_neg (fun h => h.1 hs1)]
          obtain rfl : 0 = n := by rw [← HN.out, hnone]; rfl
          obtain rfl : [] = es := by rw [← HES.out, hnone]; rfl
          obtain rfl : 0 = K := by rw [← HK.out]; rfl
          obtain rfl : false = ok := by rw [← HOK.out, hnone]; rfl
          clear hnone hs1 hL6
          go_wp2_with fail
          refine bodyPost_ret (by simp [results, Tryd.results16, go_sem, *]; try rfl) rfl ?_
          exact ⟨_, _, rfl, World.ownsRow_nil _ _ _ _, bthenS hB1 hB⟩
        · have hs1 : toL s ≠ [] := by unfold toL; rw [← ByteArray.toList_eq]; exact hs0
          have HS1 := hide hs1
          have hs0b : s.toList.isEmpty = false := by cases h : s.toList with | nil => exact absurd h hs0 | cons a l => rfl
          clear hs1 hL6
          go_wp2_with fail
          refine (impl_EncodeErrors v0 a' k c' L _ _ HIS.out (by omega) rfl (HG.out.below (bthenS hB1 hB))).mono ?_
          rintro e w5 ⟨rfl, h5⟩
          have hB5 : Below w.heap.size w w5 := bthenS (bthenS hB1 hB) h5
          have HO5 := hide (own_base (own_next HO.out h5) (show w.heap.size ≤ w1.heap.size from hB1.size))
          by_cases ht : enc v0 L = toL s
          · have hst : strOf (enc v0 L) = s := by rw [ht]; rfl
            have hsome : dcdI (toL s) = some (v0, L) := by rw [HD.out, if_pos ⟨HS1.out, ht⟩]
            obtain rfl : v0 = n := by rw [← HN.out, hsome]; rfl
            obtain rfl : L = es := by rw [← HES.out, hsome]; rfl
            obtain rfl : k = K := by rw [← HK.out]; exact HL.out.2.symm
            obtain rfl : true = ok := by rw [← HOK.out, hsome]; rfl
            rw [hst]
            clear hsome hst ht
            go_wp2_with fail
            refine bodyPost_ret (by simp [results, Tryd.results16, go_sem, *]; try rfl) rfl ?_
            exact ⟨_, _, rfl, HO5.out, hB5⟩
          · have hst : ¬ strOf (enc v0 L) = s := fun h => ht (by rw [← h]; rfl)
            have hnone : dcdI (toL s) = none := by rw [HD.out, if_neg (fun h => ht h.2)]
            obtain rfl : 0 = n := by rw [← HN.out, hnone]; rfl
            obtain rfl : [] = es := by rw [← HES.out, hnone]; rfl
            obtain rfl : 0 = K := by rw [← HK.out]; rfl
            obtain rfl : false = ok := by rw [← HOK.out, hnone]; rfl
            obtain ⟨u, hu⟩ : ∃ u, strOf (enc v0 L) = u := ⟨_, rfl⟩
            rw [hu] at hst ⊢
            have hne : ¬ u.toList = s.toList := fun h => hst (by rw [ByteArray.toList_eq, ByteArray.toList_eq] at h; exact ByteArray.ext (Array.toList_inj.1 h))
            have hne2 : (u.toList == s.toList) = false := by rw [beq_eq_false_iff_ne]; exact hne
            clear hnone ht hu
            go_wp2_with fail
            refine bodyPost_ret (by simp [results, Tryd.results16, go_sem, *]; try rfl) rfl ?_
            exact ⟨_, _, rfl, World.ownsRow_nil _ _ _ _, hB5⟩
  · have hmx : max (1 : Int) ((M : Int) - 1) = (M : Int) - 1 := by omega
    obtain ⟨H, hH⟩ : ∃ H, M - 1 - 1 = H := ⟨_, rfl⟩
    go_wp2_with fail
    have HH := hide hH
    have hMH : M = H + 2 := by omega
    have HMH := hide hMH
    have hHb : H ≤ 1048576 := by omega
    clear hH hmx hMH
    go_loopw [30, 8] (fun i v wr => ∃ (k : Nat) (a' : Option Addr) (c' : Nat) (L : List En), k ≤ H ∧ i = .int .i64 k ∧ v = .slice a' k c' ∧ Hid (okMid ((midW (ws.map toL)).take k) = true) ∧ Hid (midEs ((midW (ws.map toL)).take k) = L ∧ L.length = k) ∧ wr.ownsRow w1.heap.size 58 3 (.slice a' k c') k (L.flatMap enF) ∧ Below w1.heap.size w1 wr) (fun i _ _ => H - (intOf i).toNat)
    case atStart => exact ⟨0, _, _, [], Nat.zero_le _, rfl, rfl, hide (by simp [okMid]), hide ⟨by simp [midEs], rfl⟩, World.ownsRow_made w1 #[] 0 (Nat.le_refl _) (by decide) rfl, Below.alloc (Below.refl _ _) (Nat.le_refl _) _⟩
    case round =>
      obtain ⟨k, a', c', L, hk, rfl, rfl, HOKM, HL, hown, hB⟩ := hrel
      have hsz := hB.size
      by_cases hlt : k < H
      · obtain ⟨x, hx⟩ : ∃ x, ws[k + 1]? = some x := ⟨_, List.getElem?_eq_getElem (by have := HM.out; have := HMH.out; omega)⟩
        have hxm := mid_at HM.out (by have := HMH.out; omega) hx
        have cx := strs_cell (HI1.out.below hB (Nat.le_refl _)) hx
        rw [Nat.add_comm k 1] at cx
        have hxs := HSZ.out x (List.mem_of_getElem? hx)
        have HXM := hide hxm
        have HO := hide hown
        have h1 : (0 : Int) ≤ (k : Int) := by omega
        have h2 : (k : Int) < (H : Int) := by omega
        clear hx hxm hown
        go_wp2_with fail
        refine (split_one x 58 _ (HG.out.below (bthenS hB1 hB)) (by omega)).mono ?_
        rintro e w2 ⟨ps, P, hP, rfl, HPW, hI2, hP1, hP2, HPS, hB2⟩
        have hB12 : Below w1.heap.size w1 w2 := bthenS hB hB2
        by_cases hP3 : P = 3
        · subst hP3
          obtain ⟨pa, pb, pc, rfl⟩ : ∃ a b c, ps = [a, b, c] := by
            match ps, hP with
            | [a, b, c], _ => exact ⟨a, b, c, rfl⟩
          have ca := strs_cell hI2 (k := 0) rfl; have cb := strs_cell hI2 (k := 1) rfl; have cc := strs_cell hI2 (k := 2) rfl
          have hsa := HPS.out pa (by simp); have hsb := HPS.out pb (by simp); have hsc := HPS.out pc (by simp)
          have HSP : Hid (Go.Lib.split (toL x) [58] = [toL pa, toL pb, toL pc]) := hide (by rw [← HPW.out]; rfl)
          have lr2 := World.block_lt_of_cell? _ _ ca
          clear hI2 hP
          go_wp2_with fail
          refine (impl_ParseUint pa _ _ _ rfl rfl (by omega)).mono ?_
          rintro e w' ⟨rfl, rfl⟩
          obtain ⟨va, hva⟩ : ∃ v, pU pa.data.toList = v := ⟨_, rfl⟩
          obtain ⟨oka, hoka⟩ : ∃ v, pUok pa.data.toList = v := ⟨_, rfl⟩
          rw [hva, hoka]
          have HVA := hide hva
          clear hva hoka
          go_wp2_with fail
          refine (impl_ParseUint pb _ _ _ rfl rfl (by omega)).mono ?_
          rintro e w' ⟨rfl, rfl⟩
          obtain ⟨vb, hvb⟩ : ∃ v, pU pb.data.toList = v := ⟨_, rfl⟩
          obtain ⟨okb, hokb⟩ : ∃ v, pUok pb.data.toList = v := ⟨_, rfl⟩
          rw [hvb, hokb]
          have HVB := hide hvb
          clear hvb hokb
          go_wp2_with fail
          refine (impl_ParseUint pc _ _ _ rfl rfl (by omega)).mono ?_
          rintro e w' ⟨rfl, rfl⟩
          obtain ⟨vc, hvc⟩ : ∃ v, pU pc.data.toList = v := ⟨_, rfl⟩
          obtain ⟨okc, hokc⟩ : ∃ v, pUok pc.data.toList = v := ⟨_, rfl⟩
          rw [hvc, hokc]
          have HVC := hide hvc
          clear hvc hokc
          have hs12 := hB12.size; have hs22 := hB2.size
          have HO1 := hide ((own_next HO.out hB2).alloc (.cells #[.int .i64 va, .int .i64 vb, .int .i64 vc] 58))
          have hBW : Below w1.heap.size w1 (w2.alloc (.cells #[.int .i64 va, .int .i64 vb, .int .i64 vc] 58)) := Below.alloc hB12 hs12 _
          have hsW := hBW.size
          go_wp2_with (at_builtin; refine wpList_append_own _ rfl _ _ 25 rfl w1.heap.size 58 i0_En (.agg #[.int .i64 0, .int .i64 0, .int .i64 0]) 3 24 Tryd.underlying25 hi_En hz0_En hz1_En hz2_En rfl (by decide) _ _ _ rfl (HO1.out.alloc _) ⟨w2.heap.size + 1, 0, none⟩ 1 1 [.int .i64 va, .int .i64 vb, .int .i64 vc] rfl rfl ?c1p ?c2p ?c3p ?c4p ?c5p ?_)
          (try case c1p => exact news_at_of _ _ _ (by go_size))
          (try case c2p => first | exact List.all_eq_true.1 rfl | rfl)
          (try case c3p => (unfold maxLen; omega))
          (try case c4p => omega)
          (try case c5p => (first | go_size | (simp; omega)))
          intro v' wp hownp hgp _
          obtain ⟨ap, cp, rfl⟩ := own_shape hownp
          obtain ⟨hBp, hsp⟩ := below_app hBW HO1.out (by omega) (by omega) hgp
          have HGp := hide hgp; clear hgp
          go_wp2_with fail
          go_roundw
          case rel =>
            obtain ⟨n1, n2⟩ := okMid_next HOKM.out HXM.out (ent1_three HSP.out)
            have e1 : (⟨pU (toL pa), pU (toL pb), pU (toL pc)⟩ : En) = ⟨va, vb, vc⟩ := by
              rw [← HVA.out, ← HVB.out, ← HVC.out]; rfl
            rw [e1] at n2
            refine ⟨k + 1, _, _, L ++ [⟨va, vb, vc⟩], by omega, by go_num, rfl, hide n1, hide ⟨by rw [n2, HL.out.1], by rw [List.length_append, HL.out.2]; rfl⟩, ?_, hBp⟩
            rw [List.flatMap_append]; simpa [enF] using hownp
          case measure => simp [intOf]; omega
        · have hbad : okMid (midW (Go.Lib.split (toL s) [32])) = false := by
            rw [← HW.out]
            exact okMid_no HXM.out (ent1_not (by rw [← HPW.out, List.length_map, hP]) hP3)
          have hnone := dcdI_bad hbad
          obtain rfl : 0 = n := by rw [← HN.out, hnone]; rfl
          obtain rfl : [] = es := by rw [← HES.out, hnone]; rfl
          obtain rfl : 0 = K := by rw [← HK.out]; rfl
          obtain rfl : false = ok := by rw [← HOK.out, hnone]; rfl
          have t3 : ((P : Int) != 3) = true := by rw [bne_iff_ne]; omega
          clear hnone hbad
          go_wp2_with fail
          refine bodyPost_ret (by simp [results, Tryd.results16, go_sem, *]; try rfl) rfl ?_
          exact ⟨_, _, rfl, World.ownsRow_nil _ _ _ _, bthenS hB1 hB12⟩
      · obtain rfl : k = H := by omega
        have hall : (midW (ws.map toL)).take k = midW (ws.map toL) := List.take_of_length_le (by rw [mid_len HM.out]; have := HH.out; omega)
        rw [hall] at HOKM HL
        rw [HW.out] at HOKM HL
        have hhd : (Go.Lib.split (toL s) [32]).headD [] = toL x0 := by
          rw [← HW.out]
          have := HX0.out
          cases ws with
          | nil => simp at this
          | cons a ws => simp at this; rw [this]; rfl
        have hv0 : pU ((Go.Lib.split (toL s) [32]).headD []) = v0 := by rw [hhd]; exact HV0.out
        have hdc : dcdI (toL s) = if toL s ≠ [] ∧ enc v0 L = toL s then some (v0, L) else none := by
          unfold dcdI; rw [hv0, HL.out.1, HOKM.out]; simp
        have HD := hide hdc
        have HO := hide hown
        clear hall hhd hv0 hdc hown
        have hL6 := HL.out.2
        have HIS := hide (isStructs_own enF_len (by omega) HO.out)
        by_cases hs0 : s.toList = []
        · have hs1 : toL s = [] := by unfold toL; rw [← ByteArray.toList_eq]; exact hs0
          have hnone : dcdI (toL s) = none := by rw [HD.out, if_neg (fun h => h.1 hs1)]
          obtain rfl : 0 = n := by rw [← HN.out, hnone]; rfl
          obtain rfl : [] = es := by rw [← HES.out, hnone]; rfl
          obtain rfl : 0 = K := by rw [← HK.out]; rfl
          obtain rfl : false = ok := by rw [← HOK.out, hnone]; rfl
          clear hnone hs1 hL6
          go_wp2_with fail
          refine bodyPost_ret (by simp [results, Tryd.results16, go_sem, *]; try rfl) rfl ?_
          exact ⟨_, _, rfl, World.ownsRow_nil _ _ _ _, bthenS hB1 hB⟩
        · have hs1 : toL s ≠ [] := by unfold toL; rw [← ByteArray.toList_eq]; exact hs0
          have HS1 := hide hs1
          have hs0b : s.toList.isEmpty = false := by cases h : s.toList with | nil => exact absurd h hs0 | cons a l => rfl
          clear hs1 hL6
          go_wp2_with fail
          refine (impl_EncodeErrors v0 a' k c' L _ _ HIS.out (by omega) rfl (HG.out.below (bthenS hB1 hB))).mono ?_
          rintro e w5 ⟨rfl, h5⟩
          have hB5 : Below w.heap.size w w5 := bthenS (bthenS hB1 hB) h5
          have HO5 := hide (own_base (own_next HO.out h5) (show w.heap.size ≤ w1.heap.size from hB1.size))
          by_cases ht : enc v0 L = toL s
          · have hst : strOf (enc v0 L) = s := by rw [ht]; rfl
            have hsome : dcdI (toL s) = some (v0, L) := by rw [HD.out, if_pos ⟨HS1.out, ht⟩]
            obtain rfl : v0 = n := by rw [← HN.out, hsome]; rfl
            obtain rfl : L = es := by rw [← HES.out, hsome]; rfl
            obtain rfl : k = K := by rw [← HK.out]; exact HL.out.2.symm
            obtain rfl : true = ok := by rw [← HOK.out, hsome]; rfl
            rw [hst]
            clear hsome hst ht
            go_wp2_with fail
            refine bodyPost_ret (by simp [results, Tryd.results16, go_sem, *]; try rfl) rfl ?_
            exact ⟨_, _, rfl, HO5.out, hB5⟩
          · have hst : ¬ strOf (enc v0 L) = s := fun h => ht (by rw [← h]; rfl)
            have hnone : dcdI (toL s) = none := by rw [HD.out, if_neg (fun h => ht h.2)]
            obtain rfl : 0 = n := by rw [← HN.out, hnone]; rfl
            obtain rfl : [] = es := by rw [← HES.out, hnone]; rfl
            obtain rfl : 0 = K := by rw [← HK.out]; rfl
            obtain rfl : false = ok := by rw [← HOK.out, hnone]; rfl
            obtain ⟨u, hu⟩ : ∃ u, strOf (enc v0 L) = u := ⟨_, rfl⟩
            rw [hu] at hst ⊢
            have hne : ¬ u.toList = s.toList := fun h => hst (by rw [ByteArray.toList_eq, ByteArray.toList_eq] at h; exact ByteArray.ext (Array.toList_inj.1 h))
            have hne2 : (u.toList == s.toList) = false := by rw [beq_eq_false_iff_ne]; exact hne
            clear hnone ht hu
            go_wp2_with fail
            refine bodyPost_ret (by simp [results, Tryd.results16, go_sem, *]; try rfl) rfl ?_
            exact ⟨_, _, rfl, World.ownsRow_nil _ _ _ _, hB5⟩
end Go.Proofs.YtheifhjnbpbkhaaDoor
