/- After a reset at any byte of a write the log is the old version or the new one: for every drawn input FnErrorLog answers true. No condition. -/
import Derived.Test.YtheifhjnbpbkhaaDoorLogP
import Derived.Test.YtheifhjnbpbkhaaDoorPlacesT
import Derived.Test.YtheifhjnbpbkhaaDoorDoor
import Derived.Deep.RegionHeld3
set_option linter.unusedSimpArgs false
set_option linter.unusedVariables false
namespace Go.Proofs.YtheifhjnbpbkhaaDoor
open Go.RowKit Go.ChangeShapes Go.WideShapes Go.ChangeAt Go.Joins Go.Deep
open Go.ChangeMaps (open_string shut_string)
set_option maxRecDepth 100000 in
set_option maxHeartbeats 1000000 in
theorem laws_sameErrorEntry (a b : Option Addr) (n c c' : Nat) (es : List En) (w : World) (ha : IsStructs enF 3 w a n c es) (hb : IsStructs enF 3 w b n c' es) :
    Calls Tryd.prog 33 #[.slice a n c, .slice b n c'] w fun e w' => e = .returned (.bool true) ∧ Below w.heap.size w w' := by
  have HA := hide ha; have HB := hide hb
  have hc := ha.2.1; have hm : c ≤ 9223372036854775807 := ha.2.2.1
  clear ha hb
  go_enter Tryd.func33, Tryd.ntmps33
  go_wp2
  go_loopw [5] (fun i wr => ∃ k : Nat, k ≤ n ∧ i = .int .i64 k ∧ Below w.heap.size w wr) (fun i _ => n - (intOf i).toNat)
  case atStart => exact ⟨0, by omega, rfl, Below.refl _ _⟩
  case round =>
    obtain ⟨k, hk, rfl, hB⟩ := hrel
    by_cases hlt : k < n
    · obtain ⟨e, b1, o1, he, rfl, hlb, hcell⟩ := HA.out.get enF_len (by omega) hlt
      obtain ⟨e', b2, o2, he', rfl, hlb', hcell'⟩ := HB.out.get enF_len (by omega) hlt
      obtain rfl : e' = e := by rw [he] at he'; injection he' with h; exact h.symm
      have e0 : wr.cell? ⟨b1, o1 + k * 3, none⟩ = some (.int .i64 e'.line) := (hB.cell (p := ⟨b1, o1 + (k * 3 + 0), none⟩) hlb).trans (hcell 0 _ rfl)
      have e1 : wr.cell? ⟨b1, o1 + k * 3 + 1, none⟩ = some (.int .i64 e'.code) := (hB.cell (p := ⟨b1, o1 + (k * 3 + 1), none⟩) hlb).trans (hcell 1 _ rfl)
      have e2 : wr.cell? ⟨b1, o1 + k * 3 + 2, none⟩ = some (.int .i64 e'.times) := (hB.cell (p := ⟨b1, o1 + (k * 3 + 2), none⟩) hlb).trans (hcell 2 _ rfl)
      have f0 : wr.cell? ⟨b2, o2 + k * 3, none⟩ = some (.int .i64 e'.line) := (hB.cell (p := ⟨b2, o2 + (k * 3 + 0), none⟩) hlb').trans (hcell' 0 _ rfl)
      have f1 : wr.cell? ⟨b2, o2 + k * 3 + 1, none⟩ = some (.int .i64 e'.code) := (hB.cell (p := ⟨b2, o2 + (k * 3 + 1), none⟩) hlb').trans (hcell' 1 _ rfl)
      have f2 : wr.cell? ⟨b2, o2 + k * 3 + 2, none⟩ = some (.int .i64 e'.times) := (hB.cell (p := ⟨b2, o2 + (k * 3 + 2), none⟩) hlb').trans (hcell' 2 _ rfl)
      have h1 : (0 : Int) ≤ (k : Int) := by omega
      have h2 : (k : Int) < (n : Int) := by omega
      clear hcell hcell' he he'
      go_wp2_with fail
      go_quiet (fail)
      go_wp2_with fail
      go_roundw
      case rel => exact ⟨k + 1, by omega, by go_num, bdrawn hB _⟩
      case measure => simp [intOf]; omega
    · go_wp2
      go_ret
      exact ⟨rfl, hB⟩
theorem keep_2p {W v : World} {q o o2 : Nat} {P P2 : Int} (hq : W.cell? ⟨q, o, none⟩ = some (.int .i64 P)) (hq2 : W.cell? ⟨q, o2, none⟩ = some (.int .i64 P2)) (hql : q < W.heap.size) (hb : Below W.heap.size W v) : v.cell? ⟨q, o, none⟩ = some (.int .i64 P) ∧ v.cell? ⟨q, o2, none⟩ = some (.int .i64 P2) ∧ Below W.heap.size W v :=
  ⟨((bcell hb).1 q o hql).trans hq, ((bcell hb).1 q o2 hql).trans hq2, hb⟩
theorem errAdd_L (a : Option Addr) (n c : Nat) (es : List En) (line code : Int) (L : List En) (N : Nat) (w : World) (ha : IsStructs enF 3 w a n c es) (hs : n ≤ 1048576) (hL : addL es line code = L) (hN : L.length = N) (hk : addOk es line code = true) :
    Calls Tryd.prog 32 #[.slice a n c, .int .i64 line, .int .i64 code] w (GotErrs w N L true) := by
  subst hL
  have := impl_ErrorAdd a n c es line code N w ha hs hN
  rw [hk] at this; exact this
theorem cells1 {w : World} {b : Nat} {v : Value} {t : TypeId} (h : w.heap[b]? = some (.cells #[v] t (0, 0))) : w.cell? ⟨b, 0, none⟩ = some v ∧ w.frozen? ⟨b, 0, none⟩ = false := ⟨by rw [cell_blk h]; rfl, by simp [World.frozen?, h]⟩
theorem own_setB {w : World} {base sz n b : Nat} {e : TypeId} {v u : Value} {xs : List Value} (h : w.ownsRow base e sz v n xs) (hb : v.ownBlock ≠ some b) : (w.setCell ⟨b, 0, none⟩ u).ownsRow base e sz v n xs := h.kept (only_set (only_refl w _) u) (.inr hb)
theorem own_apart {w : World} {base sz n b : Nat} {e : TypeId} {v : Value} {xs : List Value} (h : w.ownsRow base e sz v n xs) (hb : b < base) : v.ownBlock ≠ some b := fun e1 => by have := (h.lt b e1).1; omega
theorem own_before {w : World} {base sz n b : Nat} {e : TypeId} {v : Value} {xs : List Value} (h : w.ownsRow base e sz v n xs) (hb : w.heap.size ≤ b) : v.ownBlock ≠ some b := fun e1 => by have := (h.lt b e1).2; omega
set_option maxRecDepth 100000 in
set_option maxHeartbeats 8000000 in
theorem FnErrorLog_walk (a : Option Addr) (n c : Nat) (zs : List Int) (w : World) (ha : IsInts .u8 w a n c zs) (hG : Good w) :
    Calls Tryd.prog 9 #[.slice a n c] w fun e w' => e = .returned (.bool true) ∧ Below w.heap.size w w' := by
  have hm : c ≤ 9223372036854775807 := ha.2.2.1
  have hc := ha.2.1
  by_cases hs : n ≤ 1048576
  · have HA := hide ha; have HG := hide hG
    clear ha hG
    obtain ⟨i0_En, hi_En, hz0_En, hz1_En, hz2_En⟩ := info_parts info_En
    go_enter Tryd.func9, Tryd.ntmps9
    go_wp2_with fail
    refine (laws_big a n c _ hs).mono ?_
    rintro e w' ⟨rfl, rfl⟩
    go_wp2_with fail
    refine (spec_DrawPlaces a n c zs _ HA.out hs).mono ?_
    rintro e v2 ⟨a1, c1, ps, rfl, hown, hpl, hpb, hB2⟩
    have s2 := hB2.size
    obtain ⟨pg, rfl, hpg0, hpg1, hcell⟩ := own_some hown (by omega)
    have hpc : ∀ j, j < 12 → ∃ z : Int, v2.cell? ⟨pg, j, none⟩ = some (.int .i64 z) ∧ 0 ≤ z ∧ z ≤ 9999 := fun j hj => by
      have h1 := hcell j (by omega)
      have h2 : ps[j]? = some ps[j] := List.getElem?_eq_getElem (by omega)
      rw [List.getElem?_map, h2] at h1
      exact ⟨ps[j], h1, hpb _ (List.mem_of_getElem? h2)⟩
    have HP := hide hpc; have HB2 := hide hB2
    clear hcell hpc hown hB2 hpl hpb
    go_wp2_with fail
    refine (impl_LogNew _ (HG.out.below HB2.out)).mono ?_
    rintro e v3 ⟨aL, cL, rfl, oL, hB3⟩
    have s3 := hB3.size
    have HOL := hide oL; have HB3 := hide hB3
    clear oL hB3
    go_wp2_with fail
    go_loopw [6, 5] (fun i l wr => ∃ (k K : Nat) (a' : Option Addr) (c' : Nat) (es : List En) (aS : Option Addr) (cS : Nat) (ss : List ByteArray) (num : Int), k ≤ 4 ∧ i = .int .i64 k ∧ l = .slice a' K c' ∧ wr.ownsRow (v3.heap.size + 1) 58 3 (.slice a' K c') K (es.flatMap enF) ∧ es.length = K ∧ wr.heap[v3.heap.size]? = some (.cells #[.slice aS 2 cS] 35 (0, 0)) ∧ wr.ownsRow v2.heap.size 9 1 (.slice aS 2 cS) 2 (ss.map Value.string) ∧ (Value.slice aS 2 cS).ownBlock ≠ some v3.heap.size ∧ LogSt ss num es ∧ (1 ≤ num ∧ num ≤ k + 1) ∧ Below v2.heap.size v2 wr) (fun i _ _ => 4 - (intOf i).toNat)
    case atStart =>
      refine ⟨0, 0, _, _, [], aL, cL, log0, 1, by omega, rfl, rfl, (by
        have h := World.ownsRow_made (base := v3.heap.size + 1) (e := 58) (size := 3) (v3.alloc (.cells #[.slice aL 2 cL] 35)) #[] 0 (by simp) (by decide) rfl
        simpa using h), rfl, ?_, own_next HOL.out (by go_grown), own_before HOL.out (Nat.le_refl _), logSt_zero, ⟨by omega, by omega⟩, bthen HB3.out (show Below v3.heap.size v3 _ by go_grown) (by omega)⟩
      rw [alloc_lt _ _ _ (by simp)]; exact alloc_at _ _ _ rfl
    case round =>
      obtain ⟨k, K, a', c', es, aS, cS, ss, num, hk, rfl, rfl, hrow, hK, k4, oS, neS, hst, hnum, hBr⟩ := hrel
      have sr := hBr.size
      have lt4 := lt_blk k4
      have hes : errorsOkB es = true := (encOk_parts hst.1).1
      have hK6 : K ≤ 6 := by rw [← hK]; exact (okP_of hes).1
      have HR := hide hrow; have HE := hide hes; have HBr := hide hBr; have HK := hide hK; have HK4 := hide k4; have HS := hide oS; have HNE := hide neS; have HST := hide hst
      have hn1 := hnum.1; have hn2 := hnum.2
      clear hrow hes hBr hK k4 oS neS hst hnum
      by_cases hlt : k < 4
      · have hltz : (k : Int) < 4 := by omega
        have wk : IntKind.i64.wrap ((k : Int) + 1) = (k : Int) + 1 := IntWalk.i64_in _ (by omega)
        have wk2 : IntKind.i64.wrap ((k : Int) + 2) = (k : Int) + 2 := IntWalk.i64_in _ (by omega)
        have kz : (0 : Int) ≤ (k : Int) := by omega
        have kz2 : (k : Int) < 12 := by omega
        have k0 : (0 : Int) ≤ (k : Int) + 1 := by omega
        have k12 : (k : Int) + 1 < 12 := by omega
        have k20 : (0 : Int) ≤ (k : Int) + 2 := by omega
        have k22 : (k : Int) + 2 < 12 := by omega
        obtain ⟨P, hP, bP, bP'⟩ := HP.out k (by omega)
        obtain ⟨P1, hP1, bP1, bP1'⟩ := HP.out (k + 1) (by omega)
        obtain ⟨P2, hP2, bP2, bP2'⟩ := HP.out (k + 2) (by omega)
        have HP2 := hide hP2
        have q0 := ((bcell HBr.out).1 pg k (by omega)).trans hP
        have q1 := ((bcell HBr.out).1 pg (k + 1) (by omega)).trans hP1
        have hpl : pg < wr.heap.size := by omega
        obtain ⟨line, hline⟩ : ∃ z, P.tmod 8 = z := ⟨_, rfl⟩
        obtain ⟨c0, hc0⟩ : ∃ z, P1.tmod 2 = z := ⟨_, rfl⟩
        obtain ⟨r, hr⟩ : ∃ z, P2.tmod 30 = z := ⟨_, rfl⟩
        have bl : 0 ≤ line ∧ line ≤ 7 := by rw [← hline, Int.tmod_eq_emod_of_nonneg bP]; omega
        have bc : 0 ≤ c0 ∧ c0 ≤ 1 := by rw [← hc0, Int.tmod_eq_emod_of_nonneg bP1]; omega
        have br : 0 ≤ r ∧ r ≤ 29 := by rw [← hr, Int.tmod_eq_emod_of_nonneg bP2]; omega
        have wc1 : IntKind.i64.wrap (1 + c0) = 1 + c0 := IntWalk.i64_in _ (by omega)
        have wr5 : IntKind.i64.wrap (r - 5) = r - 5 := IntWalk.i64_in _ (by omega)
        have wn1 : IntKind.i64.wrap (num + 1) = num + 1 := IntWalk.i64_in _ (by omega)
        obtain ⟨L, hL⟩ : ∃ L, addL es line (1 + c0) = L := ⟨_, rfl⟩
        obtain ⟨KL, hKL⟩ : ∃ x, L.length = x := ⟨_, rfl⟩
        have hLok : errorsOkB L = true := by rw [← hL]; exact addL_ok HE.out
        have hKL6 : KL ≤ 6 := by rw [← hKL]; exact (okP_of hLok).1
        have hadd : addOk es line (1 + c0) = true := addOk_in HE.out (by omega) (by omega) (by omega) (by omega)
        have HL := hide (And.intro hL (And.intro hKL hadd))
        have HLK := hide hLok
        clear hL hKL hadd hLok hP hP1 hP2
        go_wp2_with fail
        go_region_held3 (fun u => u.cell? ⟨pg, k, none⟩ = some (.int .i64 P) ∧ u.cell? ⟨pg, k + 1, none⟩ = some (.int .i64 P1) ∧ Below wr.heap.size wr u) (first | (refine keep_2p q0 q1 hpl ?_; go_grown)) (first | (go_at_call 32; refine (errAdd_L _ _ _ es line (1 + c0) L KL _ (isStructs_own enF_len (by omega) (own_next HR.out (by go_grown))) (by omega) HL.out.1 HL.out.2.1 HL.out.2.2).mono ?_; rintro ex y1 ⟨a3, c3, rfl, o3, h3⟩; have hW_y1 : Below wr.heap.size wr y1 := bthenS (by go_grown) h3; have l_y1 := hW_y1.size; have HO3 := hide o3; clear o3))
        have HY1 := hide hW_y1
        have K41 := hide (blk_below2 HY1.out HK4.out)
        clear hW_y1 h3 q0 q1 hline hc0
        have e_4 := cell_blk K41.out 0
        have hsz : ∀ s ∈ ss, s.size ≤ 1048576 := HST.out.2.1
        have hszm : ∀ s ∈ ss, s.size ≤ maxLen := fun s hs => by have := hsz s hs; unfold maxLen; omega
        have HSZ := hide hsz; have HSM := hide hszm
        clear hsz hszm
        have HG1 := hide (HG.out.below (bthen (bthen HB2.out HBr.out (by omega)) HY1.out (by omega)))
        go_wp2_with fail
        refine (impl_LogRead aS 2 cS ss num K es true _ (isStrs_own (own_next HS.out HY1.out) HSM.out) (by omega) HSZ.out (by rw [logSt_read HST.out]; rfl) (by rw [logSt_read HST.out]; rfl) HK.out (by rw [logSt_read HST.out]; rfl) HG1.out).mono ?_
        rintro e w2 ⟨a5, c5, rfl, o5, h5⟩
        have l2 := h5.size
        have HY2 := hide (bthenS HY1.out h5)
        have HD2 := hide h5; have HO5 := hide o5
        have K42 := hide (blk_below2 h5 K41.out)
        have e_42 := cell_blk K42.out 0
        have q2 := ((bcell (bthen HBr.out HY2.out (by omega))).1 pg (k + 2) (by omega)).trans HP2.out
        clear h5 o5 e_4
        obtain ⟨S2, hS2⟩ : ∃ S, wrL ss L (r - 5) = S := ⟨_, rfl⟩
        obtain ⟨T, hT⟩ : ∃ T, encB (num + 1) L = T := ⟨_, rfl⟩
        have hokT : encOk (num + 1) L = true := encOk_of HLK.out (by omega) (by omega)
        have hencT : enc (num + 1) L = T := (enc_is hokT).trans hT
        obtain ⟨N2, es2, hst2, hcase⟩ : ∃ (N2 : Int) (es2 : List En), LogSt S2 N2 es2 ∧ ((0 ≤ r - 5 ∧ r - 5 < (T.length : Int) ∧ N2 = num ∧ es2 = es) ∨ (¬ (0 ≤ r - 5 ∧ r - 5 < (T.length : Int)) ∧ N2 = num + 1 ∧ es2 = L)) := by
          by_cases hcut : 0 ≤ r - 5 ∧ r - 5 < (T.length : Int)
          · exact ⟨num, es, by rw [← hS2]; exact logSt_cut HST.out HLK.out (by omega) hcut.1 (by rw [hT]; exact hcut.2), .inl ⟨hcut.1, hcut.2, rfl, rfl⟩⟩
          · exact ⟨num + 1, L, by rw [← hS2]; exact logSt_new HST.out HLK.out (by omega) (by rw [hT]; exact hcut), .inr ⟨hcut, rfl, rfl⟩⟩
        obtain ⟨K2, hK2⟩ : ∃ x, es2.length = x := ⟨_, rfl⟩
        have hK26 : K2 ≤ 6 := by rw [← hK2]; exact (okP_of (encOk_parts hst2.1).1).1
        have hwok := logSt_wrOk HST.out HLK.out (by omega)
        have HW := hide (And.intro hS2 hwok); have HENC := hide hencT; have HST2 := hide hst2; have HK2 := hide hK2; have HCASE := hide hcase
        clear hS2 hT hokT hencT hst2 hK2 hwok hcase
        have HG2 := hide (HG1.out.below HD2.out)
        go_wp2_with fail
        refine (impl_LogWrite aS 2 cS ss a3 KL c3 L (r - 5) S2 true _ (isStrs_own (own_next HS.out HY2.out) HSM.out) (by omega) HSZ.out (isStructs_own enF_len (by omega) (own_next HO3.out HD2.out)) (by omega) HW.out.1 HW.out.2 HG2.out).mono ?_
        rintro e w3 ⟨a6, c6, rfl, o6, h6⟩
        have l3 := h6.size
        have HO6 := hide o6
        have hAl : Below w3.heap.size w3 (w3.alloc (.cells #[.slice a6 2 c6] 35)) := Below.alloc (Below.refl _ _) (Nat.le_refl _) _
        have HD3 := hide (bthenS h6 hAl)
        have HAL := hide hAl
        have HY3 := hide (bthenS HY2.out HD3.out)
        have K43 := hide (blk_below2 HD3.out K42.out)
        have K13 := hide (show (w3.alloc (.cells #[.slice a6 2 c6] 35)).heap[w3.heap.size]? = some (.cells #[.slice a6 2 c6] 35 (0, 0)) from alloc_at _ _ _ rfl)
        have l4 : w3.heap.size + 1 ≤ (w3.alloc (.cells #[.slice a6 2 c6] 35)).heap.size := by simp
        have HG3 := hide (HG2.out.below HD3.out)
        have hsz2 : ∀ s ∈ S2, s.size ≤ 1048576 := HST2.out.2.1
        have hszm2 : ∀ s ∈ S2, s.size ≤ maxLen := fun s hs => by have := hsz2 s hs; unfold maxLen; omega
        have HSZ2 := hide hsz2; have HSM2 := hide hszm2
        clear hsz2 hszm2 h6 o6 hAl e_42 q2
        go_upto_region 15 with fail
        generalize (w3.alloc (.cells #[.slice a6 2 c6] 35)) = W4 at *
        have e_13 := cell_blk K13.out 0
        go_wp2_with fail
        refine (impl_LogRead a6 2 c6 S2 N2 K2 es2 true _ (isStrs_own (own_next HO6.out HAL.out) HSM2.out) (by omega) HSZ2.out (by rw [logSt_read HST2.out]; rfl) (by rw [logSt_read HST2.out]; rfl) HK2.out (by rw [logSt_read HST2.out]; rfl) HG3.out).mono ?_
        rintro e w5 ⟨a7, c7, rfl, o7, h7⟩
        have l5 := h7.size
        have HO7 := hide o7; have HD5 := hide h7
        clear o7 h7 e_13
        go_wp2_with fail
        refine (spec_EncodeErrors _ a3 KL c3 L T _ (isStructs_own enF_len (by omega) (own_next (own_next (own_next HO3.out HD2.out) HD3.out) HD5.out)) (by omega) HENC.out).mono ?_
        rintro e w6 ⟨rfl, h8⟩
        have l6 := h8.size
        have HD6 := hide h8
        clear h8
        obtain ⟨TS, hTS⟩ : ∃ S, strOf T = S := ⟨_, rfl⟩
        have hTL : (TS.size : Int) = (T.length : Int) := by rw [← hTS, strOf_sz]
        rw [hTS]
        clear hTS
        rcases HCASE.out with ⟨h1, h2, hN2, hE2⟩ | ⟨hcut, hN2, hE2⟩
        · obtain rfl : num = N2 := hN2.symm
          obtain rfl : es = es2 := hE2.symm
          obtain rfl : K = K2 := HK.out.symm.trans HK2.out
          have x1 : decide (r - 5 < 0) = false := decide_eq_false (by omega)
          have x4 : decide ((TS.size : Int) ≤ r - 5) = false := decide_eq_false (by omega)
          have x5 : decide (num = num + 1) = false := decide_eq_false (by omega)
          clear h1 h2 hTL
          go_wp2_with fail
          refine (laws_sameErrorEntry _ _ K _ _ es _ (isStructs_own enF_len (by omega) (own_next HO7.out HD6.out)) (isStructs_own enF_len (by omega) (own_next (own_next (own_next HO5.out HD3.out) HD5.out) HD6.out))).mono ?_
          rintro e w7 ⟨rfl, h9⟩
          have l7 := h9.size
          have HD7 := hide h9
          have K47 := hide (blk_below2 h9 (blk_below2 HD6.out (blk_below2 HD5.out K43.out)))
          have K17 := hide (blk_below2 h9 (blk_below2 HD6.out (blk_below2 HD5.out K13.out)))
          have c13 := (cells1 K17.out).1
          obtain ⟨c4, f4⟩ := cells1 K47.out
          clear h9
          have lt47 := lt_blk K47.out
          go_wp2_with fail
          go_roundw
          case rel =>
            have hO7 := own_next (own_next HO7.out HD6.out) HD7.out
            have hO6 := own_next (own_next (own_next (own_next HO6.out HAL.out) HD5.out) HD6.out) HD7.out
            have hB7 : Below v2.heap.size v2 w7 := bthen (bthen (bthen (bthen (bthen HBr.out HY3.out (by omega)) HD5.out (by omega)) HD6.out (by omega)) HD7.out (by omega)) (Below.refl _ _) (by omega)
            exact ⟨k + 1, _, _, _, _, _, _, _, _, by omega, by simp, rfl, own_setB (own_base hO7 (by omega)) (own_apart hO7 (by omega)), HK2.out, set_lit K47.out rfl, own_setB (own_base hO6 (by omega)) (own_apart hO6 (by omega)), own_apart hO6 (by omega), HST2.out, ⟨by omega, by omega⟩, hB7.setCell (by show v2.heap.size ≤ v3.heap.size; omega) _⟩
          case measure => simp [intOf]; omega
        · obtain rfl : num + 1 = N2 := hN2.symm
          obtain rfl : L = es2 := hE2.symm
          obtain rfl : KL = K2 := HL.out.2.1.symm.trans HK2.out
          by_cases y1 : r - 5 < 0
          · have x1 : decide (r - 5 < 0) = true := decide_eq_true y1
            clear y1 hTL hcut
            go_wp2_with fail
            refine (laws_sameErrorEntry _ _ KL _ _ L _ (isStructs_own enF_len (by omega) (own_next HO7.out HD6.out)) (isStructs_own enF_len (by omega) (own_next (own_next (own_next (own_next HO3.out HD2.out) HD3.out) HD5.out) HD6.out))).mono ?_
            rintro e w7 ⟨rfl, h9⟩
            have l7 := h9.size
            have HD7 := hide h9
            have K47 := hide (blk_below2 h9 (blk_below2 HD6.out (blk_below2 HD5.out K43.out)))
            have K17 := hide (blk_below2 h9 (blk_below2 HD6.out (blk_below2 HD5.out K13.out)))
            have c13 := (cells1 K17.out).1
            obtain ⟨c4, f4⟩ := cells1 K47.out
            clear h9
            have lt47 := lt_blk K47.out
            go_wp2_with fail
            go_roundw
            case rel =>
              have hO7 := own_next (own_next HO7.out HD6.out) HD7.out
              have hO6 := own_next (own_next (own_next (own_next HO6.out HAL.out) HD5.out) HD6.out) HD7.out
              have hB7 : Below v2.heap.size v2 w7 := bthen (bthen (bthen (bthen (bthen HBr.out HY3.out (by omega)) HD5.out (by omega)) HD6.out (by omega)) HD7.out (by omega)) (Below.refl _ _) (by omega)
              exact ⟨k + 1, _, _, _, _, _, _, _, _, by omega, by simp, rfl, own_setB (own_base hO7 (by omega)) (own_apart hO7 (by omega)), HK2.out, set_lit K47.out rfl, own_setB (own_base hO6 (by omega)) (own_apart hO6 (by omega)), own_apart hO6 (by omega), HST2.out, ⟨by omega, by omega⟩, hB7.setCell (by show v2.heap.size ≤ v3.heap.size; omega) _⟩
            case measure => simp [intOf]; omega
          · have x1 : decide (r - 5 < 0) = false := decide_eq_false (by omega)
            have x4 : decide ((TS.size : Int) ≤ r - 5) = true := decide_eq_true (by omega)
            clear y1 hTL hcut
            go_wp2_with fail
            refine (laws_sameErrorEntry _ _ KL _ _ L _ (isStructs_own enF_len (by omega) (own_next HO7.out HD6.out)) (isStructs_own enF_len (by omega) (own_next (own_next (own_next (own_next HO3.out HD2.out) HD3.out) HD5.out) HD6.out))).mono ?_
            rintro e w7 ⟨rfl, h9⟩
            have l7 := h9.size
            have HD7 := hide h9
            have K47 := hide (blk_below2 h9 (blk_below2 HD6.out (blk_below2 HD5.out K43.out)))
            have K17 := hide (blk_below2 h9 (blk_below2 HD6.out (blk_below2 HD5.out K13.out)))
            have c13 := (cells1 K17.out).1
            obtain ⟨c4, f4⟩ := cells1 K47.out
            clear h9
            have lt47 := lt_blk K47.out
            go_wp2_with fail
            go_roundw
            case rel =>
              have hO7 := own_next (own_next HO7.out HD6.out) HD7.out
              have hO6 := own_next (own_next (own_next (own_next HO6.out HAL.out) HD5.out) HD6.out) HD7.out
              have hB7 : Below v2.heap.size v2 w7 := bthen (bthen (bthen (bthen (bthen HBr.out HY3.out (by omega)) HD5.out (by omega)) HD6.out (by omega)) HD7.out (by omega)) (Below.refl _ _) (by omega)
              exact ⟨k + 1, _, _, _, _, _, _, _, _, by omega, by simp, rfl, own_setB (own_base hO7 (by omega)) (own_apart hO7 (by omega)), HK2.out, set_lit K47.out rfl, own_setB (own_base hO6 (by omega)) (own_apart hO6 (by omega)), own_apart hO6 (by omega), HST2.out, ⟨by omega, by omega⟩, hB7.setCell (by show v2.heap.size ≤ v3.heap.size; omega) _⟩
            case measure => simp [intOf]; omega
      · have hltz : ¬ (k : Int) < 4 := by omega
        go_wp2_with fail
        refine (impl_ErrorsOk_is _ _ _ es true HE.out _ (isStructs_own enF_len (by omega) HR.out) (by omega)).mono ?_
        rintro e w7 ⟨rfl, h9⟩
        go_wp2_with fail
        go_ret
        exact ⟨rfl, by exact bthen (bthen HB2.out HBr.out (by omega)) h9 (by omega)⟩
  · go_enter Tryd.func9, Tryd.ntmps9
    go_wp2_with fail
    refine (laws_big_yes a n c _ hm hc hs).mono ?_
    rintro e w' ⟨rfl, rfl⟩
    go_wp2_with fail
    go_ret
    exact ⟨rfl, Below.refl _ _⟩
set_option maxRecDepth 100000 in
theorem FnErrorLog_lifted (os : Os) (started : os.Started) (H : Type) (enc : TypeId × Value → H) :
    ReturnsInHanded {} Tryd.checked os 9 .any (fun w args => (Rows.fnErrorLogSpec.pre enc Tryd.prog Tryd.f9 [] false w args ∧ laidMetH Tryd.prog Rows.fnErrorLogRow.laid w) ∧ sizedMet enc Tryd.prog Tryd.f9 (OpenSpec.ofChange Rows.fnErrorLogSpec) false w args)
      (Rows.fnErrorLogSpec.post enc Tryd.prog Tryd.f9 false true false false) := by
  refine door_wrap (C := Tryd.checked) (X := fun w _ => laidMetH Tryd.prog Rows.fnErrorLogRow.laid w) (fun _ _ _ hh h => h.of_heap hh) try_own started (by kernel_rfl) Tryd.func9
    (ChangeSpec.witness_shaped (enc := enc) (C := Tryd.checked) (os := os) (X := fun w _ => laidMetH Tryd.prog Rows.fnErrorLogRow.laid w) false (World.laidAll Tryd.prog os Rows.fnErrorLogRow.laid) #[.slice none 0 0] 8 (World.laidAll_os _ _ _)
      (World.shaped_of_ZipB (by kernel_rfl) (by kernel_rfl)) (by kernel_rfl) (by kernel_rfl) (by kernel_rfl)
      (by rw [MakeChecks.laidMetH_plain _ _ _ (by kernel_rfl)]; exact laidMet_laidAll _ (by kernel_rfl) (by kernel_rfl))) ?_
  intro W base args ds gs before hval0 hW _ _ hL hSh _
  rw [MakeChecks.laidMetH_plain _ _ _ (by kernel_rfl)] at hL
  have hgood : Good W := good_of hL hSh
  have hval : ∀ (j : Nat) t v, Tryd.f9.params[j]? = some t → args[j]? = some v → Value.okWide Tryd.prog W .any base t v := hval0
  have hW' := hW
  obtain ⟨p, q, hA0, hV, rfl, hfz, hnd⟩ := hW
  have hA : DataW.TrodAll enc Tryd.prog W 0 (fun _ => true) true Tryd.f9.params.toList args.toList ds p := hA0
  rw [Tryd.params9] at hA hval
  obtain ⟨v0, vs0, d0, ds0, p0, q0, hargs, rfl, rfl, h0, r0⟩ := trodAll_cons hA
  obtain ⟨rfl, rfl, rfl⟩ := trodAll_nil r0
  obtain rfl : args = #[v0] := by cases args; simp_all
  obtain ⟨rfl, rfl⟩ := trodVars_none hV
  try simp only [List.append_nil] at hW'
  have k0 := h0
  have lt0 : ∀ x ∈ p0, x.block < W.heap.size := by obtain ⟨m, hm⟩ := k0; exact DataW.trod_lt m _ _ _ hm
  obtain ⟨b_x0, m_x0, l_x0, rfl⟩ := okWide_slice Tryd.underlying48 (hval 0 48 v0 rfl rfl)
  obtain ⟨fu0, h0⟩ := h0
  obtain ⟨a_x0, n_x0, c_x0, x0, e_x0, w_x0⟩ := isBytes_of Tryd.underlying48 Tryd.underlying5 (by kernel_rfl) h0
  simp only [Value.cells, List.cons.injEq, and_true] at e_x0
  obtain ⟨q1, q2, q3⟩ : b_x0 = a_x0 ∧ m_x0 = n_x0 ∧ l_x0 = c_x0 := by simpa using e_x0
  replace q1 := q1.symm; replace q2 := q2.symm; replace q3 := q3.symm; subst q1 q2 q3
  clear hA0 hval0
  refine (FnErrorLog_walk a_x0 n_x0 c_x0 x0 W w_x0 hgood).mono fun e W' ⟨he, bel⟩ => ?_
  subst he
  exact ⟨_, rfl, _, _, _, [], _, [], hW', trodAll_mk1 (shut_bool Tryd.underlying4 _), (trodAll_cons_mk (Below.trod try_laidOut (by kernel_rfl) (of_decide_eq_true (by kernel_rfl)) k0 bel lt0) trodAll_mk0), rfl, bel.frame _, fun h => by cases h⟩

theorem FnErrorLog_holds : Rows.FnErrorLogSaid :=
  OpenClaim.holds_of_wide 9 Tryd.f9 rfl rfl rfl rfl rfl rfl rfl ⟨rfl, rfl, rfl, rfl, rfl⟩ rfl rfl rfl rfl rfl (by kernel_rfl) Tryd.func9 (by kernel_rfl)
    (of_decide_eq_true (by kernel_rfl)) (by unfold Func.isWrapper; rw [if_neg (of_decide_eq_false (by kernel_rfl))]; exact ⟨rfl, rfl⟩)
    (fun os started H enc _ => FnErrorLog_lifted os started H enc)
theorem FnErrorLog_card : Rows.FnErrorLogCardSaid :=
  Claim7.holds_tied_plain_at .later [] [.data, .data, .data, .data, .pinned] true (true, "db3932f5ca78fea8835bc8ddd515987acb19a4f8921aa1f4aa3ed976f54975c6") false FnErrorLog_holds (fun _ h => by cases h) (by kernel_rfl) (fun _ h => by cases h) fnErrorLog_row_tie rfl ⟨rfl, rfl⟩ (by kernel_rfl) rfl
    (fun f fn hf hfn => by
      obtain rfl : f = 9 := Option.some.inj ((show Tryd.prog.funcNamed Rows.fnErrorLogRow.func = some 9 by kernel_rfl).symm.trans hf) |>.symm
      obtain rfl : fn = Tryd.f9 := (Option.some.inj (Tryd.func9.symm.trans hfn)).symm
      exact ⟨by kernel_rfl, fun j t ht => by
        rw [Tryd.params9] at ht
        have hm : t ∈ [48] := by simpa using Array.mem_of_getElem? ht
        have hall : ([48].all fun u => !Tryd.prog.wantsStandIn u) = true := by kernel_rfl
        exact (show Tryd.prog.wantsStandIn t = false by simpa using List.all_eq_true.1 hall t hm)⟩)
    (by kernel_rfl)
#print axioms FnErrorLog_card
end Go.Proofs.YtheifhjnbpbkhaaDoor
