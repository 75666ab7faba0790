/- The drawn queue: at most twenty requests, put in one by one. -/
import Derived.Test.YtahfbhfmhccgoaaDrawQ
import Derived.Test.YtahfbhfmhccgoaaQueueAdd
set_option linter.unusedSimpArgs false
set_option linter.unusedVariables false
namespace Go.Proofs.Ytahfbhfmhccgoaa
open Go.RowKit Go.ChangeShapes Go.WideShapes Go.ChangeAt Go.Joins Go.Deep
open Go.ChangeMaps (open_string shut_string)
def DrewQueue (w0 : World) (a : Option Addr) (n c b : Nat) (w : World) (e : Ending) (w' : World) : Prop :=
  ∃ (a' : Option Addr) (m c' : Nat) (es : List Rq), m ≤ 20 ∧ e = .returned (.slice a' m c') ∧ w'.ownsRow w.heap.size 41 6 (.slice a' m c') m (es.flatMap rqF) ∧ es.length = m ∧ Cur w0 a n c b w' ∧ w.grownBy w' (some b)
set_option maxRecDepth 100000 in
set_option maxHeartbeats 1000000 in
theorem spec_l19Queue (w0 : World) (a : Option Addr) (n c b : Nat) (bs : List Int) (w : World) (lines : Int) (ha : IsInts .u8 w0 a n c bs) (hs : n ≤ 1048576) (hl : lines ≤ 1000000) (hC0 : Cur w0 a n c b w) :
    Calls Try.prog 119 #[.pointer (some ⟨b, 0, none⟩), .int .i64 lines] w (DrewQueue w0 a n c b w) := by
  obtain ⟨i0_Rq, hi_Rq, hz0_Rq, hz1_Rq, hz2_Rq⟩ := info_parts info_Rq
  have HA := hide ha
  clear ha
  have hlb := hC0.lt
  have hwb : w0.heap.size ≤ b := by obtain ⟨_, _, _, _, _, h⟩ := hC0; exact h
  have hO0 : (w.alloc (.cells #[] 41)).ownsRow w.heap.size 41 6 (.slice (some ⟨w.heap.size, 0, none⟩) 0 0) 0 [] := own_made_at rfl (by omega)
  have HO0 := hide hO0
  clear hO0
  go_enter Try.func119, Try.ntmps119
  go_wp2_with fail
  refine (spec_l01Below _ a n c b bs _ 10 HA.out hs (by omega) (hC0.alloc _)).mono ?_
  rintro e w1 ⟨x, x0, x1, rfl, hC1, hg1⟩
  have HO1 := hide (HO0.out.kept hg1 (own_ne HO0.out (by omega)))
  have HG1 := hide (only_trans (only_alloc (only_refl w (some b)) _) hg1)
  have hs1 := hg1.size
  simp only [World.size_alloc] at hs1
  obtain ⟨N, rfl⟩ := Int.eq_ofNat_of_zero_le x0
  clear HO0 hg1
  go_wp2_with fail
  refine (spec_l01Once _ a n c b bs _ 10 HA.out hs (by omega) hC1).mono ?_
  rintro e w2 ⟨y, rfl, hC2, hg2⟩
  have HO2 := hide (HO1.out.kept hg2 (own_ne HO1.out (by omega)))
  have HG2 := hide (only_trans HG1.out hg2)
  have hs2 := hg2.size
  clear HO1 hg2 hC1 HG1
  cases y
  · skip
    go_wp2_with fail
    go_loopw [5, 7] (fun v i wr => ∃ (k m : Nat) (a' : Option Addr) (c' : Nat) (es : List Rq), k ≤ N ∧ i = .int .i64 k ∧ v = .slice a' m c' ∧ m ≤ k ∧ wr.ownsRow w.heap.size 41 6 (.slice a' m c') m (es.flatMap rqF) ∧ es.length = m ∧ Cur w0 a n c b wr ∧ w.grownBy wr (some b) ∧ w.heap.size ≤ wr.heap.size) (fun _ i _ => N - (intOf i).toNat)
    case atStart => exact ⟨0, 0, _, _, [], by omega, rfl, rfl, by omega, HO2.out, rfl, hC2, HG2.out, by omega⟩
    case round =>
      obtain ⟨k, m, a', c', es, hk, rfl, rfl, hm, hown, hel, hC, hG, hsz⟩ := hrel
      have HO := hide hown; have HL := hide hel; have HG := hide hG
      clear hown hel hG
      by_cases hlt : k < N
      · go_wp2_with fail
        refine (spec_l19Req w0 a n c b bs _ lines HA.out hs hl hC).mono ?_
        rintro e z1 ⟨ri, rt, rl, rw, rd, rq, _, _, _, _, _, _, _, _, _, _, rfl, hCz, hgz⟩
        have HOz := hide (HO.out.kept hgz (own_ne HO.out (by omega)))
        have hsz1 := hgz.size
        have HGz := hide (only_trans HG.out hgz)
        clear HO hC HG
        go_wp2_with fail
        refine (spec_QueueAdd lines _ _ _ es ⟨ri, rt, rl, rw, rd, rq⟩ z1 (isStructs_own rqF_len (by omega) HOz.out) (by omega)).mono ?_
        rintro e u1 ⟨a2, m2, c2, fs, pb, hm2, rfl, hown, hfl, hB⟩
        have HOu := hide (own_base hown (show w.heap.size ≤ z1.heap.size by omega))
        have hCu := hCz.below hB
        have HGu := hide (only_grow_own HGz.out (only_of_below hB none) (fun q hq => by simp at hq))
        have hsu := hB.size
        have HFL := hide hfl
        clear hown hB HOz hCz HGz hfl
        go_wp2_with fail
        go_roundw
        case rel => exact ⟨k + 1, m2, _, _, fs, by omega, by go_num, rfl, by omega, HOu.out, HFL.out, hCu, HGu.out, by omega⟩
        case measure => simp [intOf]; omega
      · obtain rfl : k = N := by omega
        go_wp2_with fail
        go_ret
        exact ⟨_, m, _, es, by omega, rfl, HO.out, HL.out, hC, HG.out⟩
  · skip
    go_wp2_with fail
    go_loopw [5, 7] (fun v i wr => ∃ (k m : Nat) (a' : Option Addr) (c' : Nat) (es : List Rq), k ≤ 20 ∧ i = .int .i64 k ∧ v = .slice a' m c' ∧ m ≤ k ∧ wr.ownsRow w.heap.size 41 6 (.slice a' m c') m (es.flatMap rqF) ∧ es.length = m ∧ Cur w0 a n c b wr ∧ w.grownBy wr (some b) ∧ w.heap.size ≤ wr.heap.size) (fun _ i _ => 20 - (intOf i).toNat)
    case atStart => exact ⟨0, 0, _, _, [], by omega, rfl, rfl, by omega, HO2.out, rfl, hC2, HG2.out, by omega⟩
    case round =>
      obtain ⟨k, m, a', c', es, hk, rfl, rfl, hm, hown, hel, hC, hG, hsz⟩ := hrel
      have HO := hide hown; have HL := hide hel; have HG := hide hG
      clear hown hel hG
      by_cases hlt : k < 20
      · go_wp2_with fail
        refine (spec_l19Req w0 a n c b bs _ lines HA.out hs hl hC).mono ?_
        rintro e z1 ⟨ri, rt, rl, rw, rd, rq, _, _, _, _, _, _, _, _, _, _, rfl, hCz, hgz⟩
        have HOz := hide (HO.out.kept hgz (own_ne HO.out (by omega)))
        have hsz1 := hgz.size
        have HGz := hide (only_trans HG.out hgz)
        clear HO hC HG
        go_wp2_with fail
        refine (spec_QueueAdd lines _ _ _ es ⟨ri, rt, rl, rw, rd, rq⟩ z1 (isStructs_own rqF_len (by omega) HOz.out) (by omega)).mono ?_
        rintro e u1 ⟨a2, m2, c2, fs, pb, hm2, rfl, hown, hfl, hB⟩
        have HOu := hide (own_base hown (show w.heap.size ≤ z1.heap.size by omega))
        have hCu := hCz.below hB
        have HGu := hide (only_grow_own HGz.out (only_of_below hB none) (fun q hq => by simp at hq))
        have hsu := hB.size
        have HFL := hide hfl
        clear hown hB HOz hCz HGz hfl
        go_wp2_with fail
        go_roundw
        case rel => exact ⟨k + 1, m2, _, _, fs, by omega, by go_num, rfl, by omega, HOu.out, HFL.out, hCu, HGu.out, by omega⟩
        case measure => simp [intOf]; omega
      · obtain rfl : k = 20 := by omega
        go_wp2_with fail
        go_ret
        exact ⟨_, m, _, es, by omega, rfl, HO.out, HL.out, hC, HG.out⟩
end Go.Proofs.Ytahfbhfmhccgoaa
