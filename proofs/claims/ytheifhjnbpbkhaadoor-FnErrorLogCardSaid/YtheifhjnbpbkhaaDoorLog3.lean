/- LogRead on both sides. -/
import Derived.Test.YtheifhjnbpbkhaaDoorLog2
set_option linter.unusedSimpArgs false
set_option linter.unusedVariables false
namespace Go.Proofs.YtheifhjnbpbkhaaDoor
open Go.RowKit Go.ChangeShapes Go.WideShapes Go.ChangeAt Go.Joins Go.Deep
open Go.ChangeMaps (open_string shut_string)
set_option maxHeartbeats 400000 in
theorem laws_szLogStore (a : Option Addr) (n c : Nat) (ss : List ByteArray) (left r : Int) (w : World) (ha : IsStrs w a n c ss) (h0 : 0 ≤ left) (h1 : left ≤ 1073741824) (hr : (if ((n + sumS ss ss.length : Nat) : Int) ≤ left then left - ((n + sumS ss ss.length : Nat) : Int) else -1) = r) :
    Calls Tryd.prog 24 #[.agg #[.slice a n c], .int .i64 left] w fun e w' => e = .returned (.int .i64 r) ∧ Below w.heap.size w w' := by
  have HA := hide ha; have HR := hide hr
  have hr2 : r = -1 ∨ 0 ≤ r := by
    rw [← hr]; split
    · right; omega
    · left; rfl
  clear ha hr
  go_enter Tryd.func24, Tryd.ntmps24
  go_wp2_with fail
  refine (laws_szStringS a n c ss left r _ (HA.out.below (B := w.heap.size) (by go_grown) (Nat.le_refl _)) h0 h1 HR.out).mono ?_
  rintro e w' ⟨rfl, rfl⟩
  rcases hr2 with rfl | hr2
  · go_wp2_with fail
    go_ret
    exact ⟨rfl, by go_grown⟩
  · have t : decide (r < 0) = false := decide_eq_false (by omega)
    go_wp2_with fail
    go_ret
    exact ⟨rfl, by go_grown⟩
set_option maxHeartbeats 400000 in
theorem laws_toLogStore (a : Option Addr) (n c : Nat) (ss : List ByteArray) (w : World) (ha : IsStrs w a n c ss) (hs : n ≤ 1048576) :
    Calls Tryd.prog 26 #[.agg #[.slice a n c]] w (FreshL w n ss) := by
  have HA := hide ha
  clear ha
  go_enter Tryd.func26, Tryd.ntmps26
  go_wp2_with fail
  refine (laws_toStringS a n c ss _ (HA.out.below (B := w.heap.size) (by go_grown) (Nat.le_refl _)) hs).mono ?_
  rintro e w1 ⟨a1, c1, rfl, o1, h1⟩
  have hcell := (bcell h1).1 (w.heap.size + 1) 0 (by simp)
  have hfree := (bcell h1).2 (w.heap.size + 1) 0 (by simp)
  have hcell2 := (bcell h1).1 (w.heap.size + 1 + 1) 0 (by simp)
  have hfree2 := (bcell h1).2 (w.heap.size + 1 + 1) 0 (by simp)
  have h2 : Below w.heap.size w w1 := bthen (by go_grown) h1 (by go_size)
  have hsz : w.heap.size + 1 + 1 < w1.heap.size := by have := h1.size; simp at this; omega
  go_wp2_with fail
  refine bodyPost_ret (by simp [results, Tryd.results26, go_sem, *]; try rfl) rfl ?_
  refine ⟨_, _, rfl, ?_, Below.setCell (Below.setCell h2 (by simp only; omega) _) (by simp only; omega) _⟩
  refine own_base ?_ (show w.heap.size ≤ w.heap.size + 1 + 1 + 1 by omega)
  exact ownsRow_setCell_below (ownsRow_setCell_below (by simpa using o1) (by simp only; omega) _) (by simp only; omega) _
set_option maxRecDepth 100000 in
set_option maxHeartbeats 2000000 in
theorem impl_newest (a : Option Addr) (n c : Nat) (ss : List ByteArray) (b : Int) (w : World) (ha : IsStrs w a n c ss) (hs : n ≤ 1048576) (hsz : ∀ s ∈ ss, s.size ≤ 1048576) (hb : bestOf ss = b) (hG : Good w) :
    Calls Tryd.prog 52 #[.agg #[.slice a n c]] w fun e w' => e = .returned (.int .i64 b) ∧ Below w.heap.size w w' := by
  have HA := hide ha; have HS := hide hsz; have HBE := hide hb; have HG := hide hG
  have hln := ha.1
  have hc := ha.2.1
  clear ha hsz hb hG
  go_enter Tryd.func52, Tryd.ntmps52
  go_wp2_with fail
  go_loopw [3, 4, 13] (fun vb vm i wr => ∃ (k : Nat) (b' m : Int), k ≤ n ∧ i = .int .i64 k ∧ vb = .int .i64 b' ∧ vm = .int .i64 m ∧ Hid (bTo ss k = ((k : Int), b', m)) ∧ Below w.heap.size w wr) (fun _ _ i _ => n - (intOf i).toNat)
  case atStart => exact ⟨0, -1, 0, Nat.zero_le _, rfl, rfl, rfl, hide rfl, by go_grown⟩
  case round =>
    obtain ⟨k, b', m, hk, rfl, rfl, rfl, HT, hB⟩ := hrel
    have hsz := hB.size
    by_cases hlt : k < n
    · obtain ⟨s, b1, o1, hs1, rfl, hlb, cs⟩ := HA.out.2.2.2.2.get (k := k) (by omega)
      have e0 : wr.cell? ⟨b1, o1 + k, none⟩ = some (.string s) := ((bcell hB).1 b1 _ hlb).trans cs
      have hss := HS.out s (List.mem_of_getElem? hs1)
      have HN := hide (bTo_next hs1)
      have h2 : (0 : Int) ≤ (k : Int) := by omega
      have h3 : (k : Int) < (n : Int) := by omega
      clear hs1 cs
      go_wp2_with fail
      refine (impl_DecodeErrors s _ _ _ _ _ hss rfl rfl rfl rfl (HG.out.below hB)).mono ?_
      rintro e w1 ⟨a1, c1, rfl, o1', hB1⟩
      obtain ⟨N, hN⟩ : ∃ N, decN (dcdI (toL s)) = N := ⟨_, rfl⟩
      obtain ⟨ok, hok⟩ : ∃ ok, (dcdI (toL s)).isSome = ok := ⟨_, rfl⟩
      rw [hN, hok]
      have HNN := hide hN; have HOK := hide hok
      have hB2 : Below w.heap.size w w1 := bthenS hB hB1
      clear hN hok o1'
      by_cases hif : ok = true ∧ N > m
      · obtain ⟨rfl, hgt⟩ := hif
        have t1 : decide (N > m) = true := decide_eq_true hgt
        have HN2 : Hid (bTo ss (k + 1) = (((k + 1 : Nat) : Int), (k : Int), N)) := hide (by
          rw [HN.out, HT.out]; unfold bStep; rw [HNN.out, HOK.out, if_pos ⟨rfl, hgt⟩]; simp)
        go_wp2_with fail
        go_roundw
        case rel => exact ⟨k + 1, _, _, by omega, by go_num, rfl, rfl, HN2, hB2⟩
        case measure => simp [intOf]; omega
      · have HN2 : Hid (bTo ss (k + 1) = (((k + 1 : Nat) : Int), b', m)) := hide (by
          rw [HN.out, HT.out]; unfold bStep; rw [HNN.out, HOK.out, if_neg hif]; simp)
        cases ok
        · go_wp2_with fail
          go_roundw
          case rel => exact ⟨k + 1, _, _, by omega, by go_num, rfl, rfl, HN2, hB2⟩
          case measure => simp [intOf]; omega
        · have hgt : ¬ N > m := fun h => hif ⟨rfl, h⟩
          have t1 : decide (N > m) = false := decide_eq_false hgt
          clear hif
          go_wp2_with fail
          go_roundw
          case rel => exact ⟨k + 1, _, _, by omega, by go_num, rfl, rfl, HN2, hB2⟩
          case measure => simp [intOf]; omega
    · have hb1 : b' = b := by
        have e : k = ss.length := by omega
        have := HBE.out
        unfold bestOf at this
        rw [← e, HT.out] at this
        exact this
      have HB1 := hide hb1
      clear hb1
      go_wp2_with fail
      go_ret
      exact ⟨ret_int HB1.out, hB⟩
set_option maxRecDepth 100000 in
set_option maxHeartbeats 2000000 in
theorem spec_l26Best (a : Option Addr) (n c : Nat) (ss : List ByteArray) (b : Int) (w : World) (ha : IsStrs w a n c ss) (hs : n ≤ 1048576) (hsz : ∀ s ∈ ss, s.size ≤ 1048576) (hb : bestOf ss = b) :
    Calls Tryd.prog 50 #[.agg #[.slice a n c]] w fun e w' => e = .returned (.int .i64 b) ∧ Below w.heap.size w w' := by
  have HA := hide ha; have HS := hide hsz; have HBE := hide hb
  have hln := ha.1
  have hc := ha.2.1
  clear ha hsz hb
  go_enter Tryd.func50, Tryd.ntmps50
  go_wp2_with fail
  go_loopw [3, 4, 5] (fun vb vm i wr => ∃ (k : Nat) (b' m : Int), k ≤ n ∧ i = .int .i64 k ∧ vb = .int .i64 b' ∧ vm = .int .i64 m ∧ Hid (bTo ss k = ((k : Int), b', m)) ∧ Below (w.heap.size + 1) (w.alloc (.cells #[.slice a n c] 35)) wr) (fun _ _ i _ => n - (intOf i).toNat)
  case atStart => exact ⟨0, -1, 0, Nat.zero_le _, rfl, rfl, rfl, hide rfl, by simpa using Below.refl (w.alloc (.cells #[.slice a n c] 35)).heap.size (w.alloc (.cells #[.slice a n c] 35))⟩
  case round =>
    obtain ⟨k, b', m, hk, rfl, rfl, rfl, HT, hB0⟩ := hrel
    have hB : Below w.heap.size w wr := (Below.alloc (Below.refl _ _) (Nat.le_refl _) _).trans (hB0.mono (by omega))
    have hsz := hB.size
    have hsz0 : w.heap.size + 1 ≤ wr.heap.size := by have := hB0.size; simpa using this
    have eh := (bcell hB0).1 w.heap.size 0 (by omega)
    by_cases hlt : k < n
    · obtain ⟨s, b1, o1, hs1, rfl, hlb, cs⟩ := HA.out.2.2.2.2.get (k := k) (by omega)
      have e0 : wr.cell? ⟨b1, o1 + k, none⟩ = some (.string s) := ((bcell hB).1 b1 _ hlb).trans cs
      have hss := HS.out s (List.mem_of_getElem? hs1)
      have HN := hide (bTo_next hs1)
      have h2 : (0 : Int) ≤ (k : Int) := by omega
      have h3 : (k : Int) < (n : Int) := by omega
      clear hs1 cs
      go_wp2_with fail
      refine (spec_DecodeErrors s _ _ _ _ _ hss (by rw [← dcd_same]) (by rw [← dcd_same]) rfl (by rw [← dcd_same])).mono ?_
      rintro e w1 ⟨a1, c1, rfl, o1', hB1⟩
      obtain ⟨N, hN⟩ : ∃ N, decN (dcdI (toL s)) = N := ⟨_, rfl⟩
      obtain ⟨ok, hok⟩ : ∃ ok, (dcdI (toL s)).isSome = ok := ⟨_, rfl⟩
      rw [hN, hok]
      have HNN := hide hN; have HOK := hide hok
      have hB2 : Below (w.heap.size + 1) _ w1 := bthen hB0 hB1 hsz0
      clear hN hok o1'
      by_cases hif : ok = true ∧ N > m
      · obtain ⟨rfl, hgt⟩ := hif
        have t1 : decide (N > m) = true := decide_eq_true hgt
        have HN2 : Hid (bTo ss (k + 1) = (((k + 1 : Nat) : Int), (k : Int), N)) := hide (by
          rw [HN.out, HT.out]; unfold bStep; rw [HNN.out, HOK.out, if_pos ⟨rfl, hgt⟩]; simp)
        go_wp2_with fail
        go_roundw
        case rel => exact ⟨k + 1, _, _, by omega, by go_num, rfl, rfl, HN2, hB2⟩
        case measure => simp [intOf]; omega
      · have HN2 : Hid (bTo ss (k + 1) = (((k + 1 : Nat) : Int), b', m)) := hide (by
          rw [HN.out, HT.out]; unfold bStep; rw [HNN.out, HOK.out, if_neg hif]; simp)
        cases ok
        · go_wp2_with fail
          go_roundw
          case rel => exact ⟨k + 1, _, _, by omega, by go_num, rfl, rfl, HN2, hB2⟩
          case measure => simp [intOf]; omega
        · have hgt : ¬ N > m := fun h => hif ⟨rfl, h⟩
          have t1 : decide (N > m) = false := decide_eq_false hgt
          clear hif
          go_wp2_with fail
          go_roundw
          case rel => exact ⟨k + 1, _, _, by omega, by go_num, rfl, rfl, HN2, hB2⟩
          case measure => simp [intOf]; omega
    · have hb1 : b' = b := by
        have e : k = ss.length := by omega
        have := HBE.out
        unfold bestOf at this
        rw [← e, HT.out] at this
        exact this
      have HB1 := hide hb1
      clear hb1
      go_wp2_with fail
      go_ret
      exact ⟨ret_int HB1.out, hB⟩
set_option maxRecDepth 100000 in
set_option maxHeartbeats 2000000 in
theorem impl_LogRead (a : Option Addr) (n c : Nat) (ss : List ByteArray) (N : Int) (K : Nat) (es : List En) (ok : Bool) (w : World) (ha : IsStrs w a n c ss) (hs : n ≤ 1048576) (hsz : ∀ s ∈ ss, s.size ≤ 1048576) (hn : decN (rdL ss) = N) (hes : decL (rdL ss) = es) (hK : es.length = K) (hok : (rdL ss).isSome = ok) (hG : Good w) :
    Calls Tryd.prog 27 #[.agg #[.slice a n c]] w (GotDec w N K es ok) := by
  have HA := hide ha; have HS := hide hsz; have HG := hide hG; have HR := hide (And.intro hn (And.intro hes (And.intro hK hok)))
  have hln := ha.1
  have hc := ha.2.1
  clear ha hsz hG hn hes hK hok
  rcases best_cases ss with hb | ⟨b, s, hb, hbl, hbs, hbo⟩
  · have hr := rdL_none (ss := ss) (by omega)
    obtain ⟨h1, h2, h3, h4⟩ := HR.out
    obtain rfl : 0 = N := by rw [← h1, hr]; rfl
    obtain rfl : [] = es := by rw [← h2, hr]; rfl
    obtain rfl : 0 = K := by rw [← h3]; rfl
    obtain rfl : false = ok := by rw [← h4, hr]; rfl
    have HB := hide hb
    clear hr hb h1 h2 h3 h4
    go_enter Tryd.func27, Tryd.ntmps27
    go_wp2_with fail
    refine (impl_newest a n c ss (-1) _ (HA.out.below (B := w.heap.size) (by go_grown) (Nat.le_refl _)) hs HS.out HB.out (HG.out.below (by go_grown))).mono ?_
    rintro e w1 ⟨rfl, h1⟩
    have h2 : Below w.heap.size w w1 := bthen (by go_grown) h1 (by go_size)
    go_wp2_with fail
    refine bodyPost_ret (by simp [results, Tryd.results27, go_sem, *]; try rfl) rfl ?_
    exact ⟨_, _, rfl, World.ownsRow_nil _ _ _ _, h2⟩
  · have HD := hide (rdL_at hb hbs)
    have HB := hide hb
    have hss := HS.out s (List.mem_of_getElem? hbs)
    obtain ⟨s', b1, o1, hs1, rfl, hlb, cs⟩ := HA.out.2.2.2.2.get (k := b) (by omega)
    obtain rfl : s = s' := by rw [hbs] at hs1; exact Option.some.inj hs1
    have hc1 : w.cell? ⟨b1, o1 + b, none⟩ = some (.string s) := cs
    have t1 : decide ((b : Int) < 0) = false := decide_eq_false (by omega)
    have i0 : (0 : Int) ≤ (b : Int) := by omega
    have i1 : (b : Int) < (n : Int) := by omega
    clear hb hbs hbo hs1 cs
    go_enter Tryd.func27, Tryd.ntmps27
    go_wp2_with fail
    refine (impl_newest _ n c ss b _ (HA.out.below (B := w.heap.size) (by go_grown) (Nat.le_refl _)) hs HS.out HB.out (HG.out.below (by go_grown))).mono ?_
    rintro e w1 ⟨rfl, h1⟩
    have h2 : Below w.heap.size w w1 := bthen (by go_grown) h1 (by go_size)
    have e0 := ((bcell h2).1 b1 (o1 + b) hlb).trans hc1
    have hcell := (bcell h1).1 w.heap.size 0 (by simp)
    clear hc1
    go_wp2_with fail
    refine (impl_DecodeErrors s N K es ok _ hss (by rw [← HD.out]; exact HR.out.1) (by rw [← HD.out]; exact HR.out.2.1) HR.out.2.2.1 (by rw [← HD.out]; exact HR.out.2.2.2) (HG.out.below h2)).mono ?_
    rintro e w2 ⟨a2, c2, rfl, o2, h3⟩
    have h4 := bthenS h2 h3
    have HO2 := hide (own_base o2 h2.size)
    clear o2
    go_wp2_with fail
    refine bodyPost_ret (by simp [results, Tryd.results27, go_sem, *]; try rfl) rfl ?_
    exact ⟨_, _, rfl, HO2.out, h4⟩
set_option maxRecDepth 100000 in
set_option maxHeartbeats 2000000 in
theorem spec_LogRead (a : Option Addr) (n c : Nat) (ss : List ByteArray) (N : Int) (K : Nat) (es : List En) (ok : Bool) (w : World) (ha : IsStrs w a n c ss) (hs : n ≤ 1048576) (hsz : ∀ s ∈ ss, s.size ≤ 1048576) (hn : decN (rdL ss) = N) (hes : decL (rdL ss) = es) (hK : es.length = K) (hok : (rdL ss).isSome = ok) :
    Calls Tryd.prog 25 #[.agg #[.slice a n c]] w (GotDec w N K es ok) := by
  have HA := hide ha; have HS := hide hsz; have HR := hide (And.intro hn (And.intro hes (And.intro hK hok)))
  have hln := ha.1
  have hc := ha.2.1
  clear ha hsz hn hes hK hok
  rcases best_cases ss with hb | ⟨b, s, hb, hbl, hbs, hbo⟩
  · have hr := rdL_none (ss := ss) (by omega)
    obtain ⟨h1, h2, h3, h4⟩ := HR.out
    obtain rfl : 0 = N := by rw [← h1, hr]; rfl
    obtain rfl : [] = es := by rw [← h2, hr]; rfl
    obtain rfl : 0 = K := by rw [← h3]; rfl
    obtain rfl : false = ok := by rw [← h4, hr]; rfl
    have HB := hide hb
    clear hr hb h1 h2 h3 h4
    go_enter Tryd.func25, Tryd.ntmps25
    go_wp2_with fail
    refine (spec_l26Best a n c ss (-1) _ (HA.out.below (B := w.heap.size) (by go_grown) (Nat.le_refl _)) hs HS.out HB.out).mono ?_
    rintro e w1 ⟨rfl, h1⟩
    have h2 : Below w.heap.size w w1 := bthen (by go_grown) h1 (by go_size)
    go_wp2_with fail
    refine bodyPost_ret (by simp [results, Tryd.results25, go_sem, *]; try rfl) rfl ?_
    exact ⟨_, _, rfl, World.ownsRow_made w1 #[] 0 h2.size (by decide) rfl, Below.alloc h2 h2.size _⟩
  · have HD := hide (rdL_at hb hbs)
    have HB := hide hb
    have hss := HS.out s (List.mem_of_getElem? hbs)
    obtain ⟨s', b1, o1, hs1, rfl, hlb, cs⟩ := HA.out.2.2.2.2.get (k := b) (by omega)
    obtain rfl : s = s' := by rw [hbs] at hs1; exact Option.some.inj hs1
    have hc1 : w.cell? ⟨b1, o1 + b, none⟩ = some (.string s) := cs
    have t1 : decide ((b : Int) < 0) = false := decide_eq_false (by omega)
    have i0 : (0 : Int) ≤ (b : Int) := by omega
    have i1 : (b : Int) < (n : Int) := by omega
    clear hb hbs hbo hs1 cs
    go_enter Tryd.func25, Tryd.ntmps25
    go_wp2_with fail
    refine (spec_l26Best _ n c ss b _ (HA.out.below (B := w.heap.size) (by go_grown) (Nat.le_refl _)) hs HS.out HB.out).mono ?_
    rintro e w1 ⟨rfl, h1⟩
    have h2 : Below w.heap.size w w1 := bthen (by go_grown) h1 (by go_size)
    have e0 := ((bcell h2).1 b1 (o1 + b) hlb).trans hc1
    have hcell := (bcell h1).1 w.heap.size 0 (by simp)
    clear hc1
    go_wp2_with fail
    refine (spec_DecodeErrors s N K es ok _ hss (by rw [← dcd_same, ← HD.out]; exact HR.out.1) (by rw [← dcd_same, ← HD.out]; exact HR.out.2.1) HR.out.2.2.1 (by rw [← dcd_same, ← HD.out]; exact HR.out.2.2.2)).mono ?_
    rintro e w2 ⟨a2, c2, rfl, o2, h3⟩
    have h4 := bthenS h2 h3
    have HO2 := hide (own_base o2 h2.size)
    clear o2
    go_wp2_with fail
    refine bodyPost_ret (by simp [results, Tryd.results25, go_sem, *]; try rfl) rfl ?_
    exact ⟨_, _, rfl, HO2.out, h4⟩
end Go.Proofs.YtheifhjnbpbkhaaDoor
