/- Numbers as text: strconv.Itoa through the program's FormatInt, the reference's own FormatInt, and the sum of a text's bytes. -/
import Derived.Test.YtheifhjnbpbkhaaDoorEncP
import Derived.Test.YtheifhjnbpbkhaaDoorShelf
import Derived.Test.YtheifhjnbpbkhaaDoorSts
import Derived.Test.YtheifhjnbpbkhaaDoorBetween
import Derived.Deep.RegionHeld3
import Derived.Lib.ItoaMem
import Derived.Lib.AppendIntMem
set_option linter.unusedSimpArgs false
set_option linter.unusedVariables false
namespace Go.Proofs.YtheifhjnbpbkhaaDoor
open Go.RowKit Go.ChangeShapes Go.WideShapes Go.ChangeAt Go.Joins Go.Deep
open Go.ChangeMaps (open_string shut_string)
open Go.Lib (decDigits)
/-- The library's table of powers of ten and the library's length limit lie where start-up put them. -/
def Good (w : World) : Prop := Go.Lib.TabIs Tryd.prog w "internal/strconv.uint64pow10" .u64 Go.Lib.pow10Tab ∧ ∃ m, w.cell? ⟨0, 0, none⟩ = some (.int .i64 m)
theorem Good.below {w w' : World} (h : Good w) (hb : Below w.heap.size w w') : Good w' := by
  refine ⟨Go.Lib.tabBelow_of_tabIs h.1 w' hb, ?_⟩
  obtain ⟨m, hm⟩ := h.2
  exact ⟨m, ((bcell hb).1 0 0 (World.block_lt_of_cell? w _ hm)).trans hm⟩
theorem below_grow (w : World) (k : Nat) (os : Array Obj) : Below w.heap.size w (Go.Sort.grow (w.drewN k) os) :=
  ⟨rfl, rfl, rfl, by simp [Go.Sort.grow], fun i hi => by simp [Go.Sort.grow, Array.getElem?_append_left, hi]⟩
theorem ret_str {a b : ByteArray} (h : a = b) : Ending.returned (.string a) = .returned (.string b) := by rw [h]
def strOf (l : List UInt8) : ByteArray := ⟨l.toArray⟩
theorem strOf_add (a b : List UInt8) : strOf a ++ strOf b = strOf (a ++ b) := by
  apply ByteArray.ext; simp [strOf, ByteArray.data_append]
theorem strOf_data (l : List UInt8) : (strOf l).data.toList = l := rfl
theorem strOf_size (l : List UInt8) : (strOf l).size = l.length := rfl
theorem itoa_dec {z : Int} (h : 0 ≤ z) : Go.Lib.itoa z = decI z := by unfold Go.Lib.itoa decI; rw [if_neg (by omega)]
set_option maxHeartbeats 1000000 in
theorem impl_FormatInt (z : Int) (w : World) (h0 : 0 ≤ z) (h1 : z ≤ 9223372036854775807) (hG : Good w) :
    Calls Tryd.prog 41 #[.int .i64 z] w fun e w' => e = .returned (.string (strOf (decI z))) ∧ Below w.heap.size w w' := by
  have HG := hide hG
  clear hG
  go_enter Tryd.func41, Tryd.ntmps41
  go_wp2_with fail
  refine (Tryd.strconv_Itoa z (by omega) h1 _ HG.out.1).mono ?_
  rintro e w' ⟨rfl, k, os, hw⟩
  have hb : Below w.heap.size w w' := by rw [hw]; exact below_grow w k os
  have HI := hide (itoa_dec h0)
  clear hw
  go_wp2_with fail
  go_ret
  exact ⟨by rw [HI.out]; rfl, hb⟩
set_option maxHeartbeats 1000000 in
theorem spec_l01Figure (u : Nat) (w : World) (h : u < 10) :
    Calls Tryd.prog 58 #[.int .i64 u] w fun e w' => e = .returned (.int .u8 ((UInt8.ofNat (48 + u)).toNat : Int)) ∧ w = w' := by
  have e1 : ((UInt8.ofNat (48 + u)).toNat : Int) = ((48 + u : Nat) : Int) := by simp [UInt8.toNat_ofNat']; omega
  have HE := hide e1
  clear e1
  have h1 : decide ((u : Int) < 10) = true := by simp; omega
  go_enter Tryd.func58, Tryd.ntmps58
  go_wp2_with fail
  go_ret
  exact ⟨ret_int (by rw [HE.out]; push_cast; rfl), rfl⟩
/-- What is left to write of a number, and what is written: v stands ahead of t. -/
def FmtRel (u v : Nat) (t : List UInt8) : Prop := (v ≠ 0 → decDigits v ++ t = decDigits u) ∧ (v = 0 → t = decDigits u)
theorem FmtRel.next {u v : Nat} {t : List UInt8} (h : FmtRel u v t) (hv : v ≠ 0) : FmtRel u (v / 10) (UInt8.ofNat (48 + v % 10) :: t) := by
  have e := h.1 hv
  by_cases h2 : v < 10
  · rw [Go.Lib.decDigits_one h2] at e
    exact ⟨fun h => by omega, fun _ => by rw [Nat.mod_eq_of_lt h2]; exact e⟩
  · rw [dec_step h2] at e
    exact ⟨fun _ => by rw [← e]; simp, fun h => by omega⟩
set_option maxHeartbeats 2000000 in
theorem spec_FormatInt (z : Int) (w : World) (h : 0 ≤ z) (h1 : z ≤ 1000000000000) :
    Calls Tryd.prog 37 #[.int .i64 z] w fun e w' => e = .returned (.string (strOf (decI z))) ∧ Below w.heap.size w w' := by
  by_cases hz : z = 0
  · subst hz
    go_enter Tryd.func37, Tryd.ntmps37
    go_wp2_with fail
    go_ret
    refine ⟨ret_str ?_, Below.refl _ _⟩
    unfold decI; rw [show (0 : Int).toNat = 0 from rfl, Go.Lib.decDigits_one (by decide)]; rfl
  · obtain ⟨u, rfl⟩ : ∃ u : Nat, z = (u : Int) := ⟨z.toNat, by omega⟩
    have hu : u ≠ 0 := by omega
    have hneg : decide ((u : Int) < 0) = false := by simp
    have hu0 : ((u : Int) == 0) = false := by simp; omega
    go_enter Tryd.func37, Tryd.ntmps37
    go_wp2_with fail
    go_loopw [0, 4] (fun n s wr => ∃ (v : Nat) (t : List UInt8), v ≤ u ∧ n = .int .i64 v ∧ s = .string (strOf t) ∧ Hid (FmtRel u v t) ∧ Below w.heap.size w wr) (fun n _ _ => (intOf n).toNat)
    case atStart => exact ⟨u, [], Nat.le_refl _, rfl, rfl, hide ⟨fun _ => by simp, fun h => absurd h hu⟩, Below.refl _ _⟩
    case round =>
      obtain ⟨v, t, hv, rfl, rfl, HT, hB⟩ := hrel
      by_cases h0 : v = 0
      · subst h0
        go_wp2_with fail
        go_ret
        exact ⟨ret_str (by rw [HT.out.2 rfl]; rfl), hB⟩
      · have hne : ((v : Int) != 0) = true := by simp; omega
        obtain ⟨d, hd⟩ : ∃ d : Nat, v % 10 = d := ⟨_, rfl⟩
        obtain ⟨q, hq⟩ : ∃ q : Nat, v / 10 = q := ⟨_, rfl⟩
        have hm0 : (v : Int).tmod 10 = (d : Int) := by rw [Int.tmod_eq_emod_of_nonneg (by omega)]; omega
        have hd0 : (v : Int).tdiv 10 = (q : Int) := by rw [Int.tdiv_eq_ediv_of_nonneg (by omega)]; omega
        have hm1 : decide ((d : Int) < 0) = false := by simp
        have hsw := hB.size
        obtain ⟨c, hc⟩ : ∃ c : UInt8, UInt8.ofNat (48 + d) = c := ⟨_, rfl⟩
        have hcv : (convert 48 9 (.slice (some ⟨wr.heap.size, 0, none⟩) 1 1)).run Tryd.prog (wr.alloc (.cells #[.int .u8 (c.toNat : Int)] 5)) = .ok (.string (strOf [c])) (wr.alloc (.cells #[.int .u8 (c.toNat : Int)] 5)) :=
          run_convert_bytes_back _ _ _ 5 _ 1 [c] Tryd.underlying48 Tryd.underlying5 Tryd.underlying9 (fun j hj => by
            obtain rfl : j = 0 := by simpa using hj
            exact cell_blk (alloc_at _ _ _ rfl) 0)
        have htl : (strOf t).size ≤ 20 := by
          have e1 := congrArg List.length (HT.out.1 h0)
          have e2 := dec_len u 12 (by omega)
          rw [List.length_append] at e1
          rw [strOf_size]; omega
        have htc : (strOf [c]).size = 1 := rfl
        have HN := hide (HT.out.next h0)
        have HC := hide hc
        have HA := hide (strOf_add [c] t)
        have HD := hide hd; have HQ := hide hq
        have hqb : (q : Int) ≤ 1000000000000 := by omega
        have hqv : q < v := by omega
        clear hc hd hq
        go_wp2_with fail
        refine (spec_l01Figure d _ (by have := HD.out; omega)).mono ?_
        rintro e w' ⟨rfl, rfl⟩
        rw [HC.out]
        go_wp2_with fail
        go_roundw
        case rel =>
          refine ⟨q, c :: t, by have := HQ.out; omega, rfl, ?_, hide ?_, ?_⟩
          · exact congrArg Value.string HA.out
          · rw [← HQ.out, ← HC.out, ← HD.out]; exact HN.out
          · exact Below.alloc hB hsw _
        case measure => simp [intOf]; omega
end Go.Proofs.YtheifhjnbpbkhaaDoor
