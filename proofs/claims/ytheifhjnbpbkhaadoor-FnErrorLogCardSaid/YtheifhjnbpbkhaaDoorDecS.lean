/- Reading an error log's text, the reference's side. -/
import Derived.Test.YtheifhjnbpbkhaaDoorDecE
import Derived.Test.YtheifhjnbpbkhaaDoorInts
set_option linter.unusedSimpArgs false
set_option linter.unusedVariables false
namespace Go.Proofs.YtheifhjnbpbkhaaDoor
open Go.RowKit Go.ChangeShapes Go.WideShapes Go.ChangeAt Go.Joins Go.Deep
open Go.ChangeMaps (open_string shut_string)
theorem nums_full {l : List UInt8} {n : Int} {inn : Bool} {out : List Int} (h : ¬ out.length < 24) : numsL l n inn out = out := by
  cases l with
  | nil => rfl
  | cons c l => show (if _ then _ else _) = _; rw [if_neg h]
theorem nums_dig {l : List UInt8} {c : UInt8} {n : Int} {inn : Bool} {out : List Int} (h : out.length < 24) (hc : isDig c = true) : numsL (c :: l) n inn out = numsL l (min (n * 10 + ((c.toNat : Int) - 48)) 1000000001) true out := by
  show (if _ then _ else _) = _; rw [if_pos h, if_pos hc]
theorem nums_sep {l : List UInt8} {c : UInt8} {n : Int} {inn : Bool} {out : List Int} (h : out.length < 24) (hc : isDig c = false) : numsL (c :: l) n inn out = numsL l 0 false (if inn = true then out ++ [n] else out) := by
  show (if _ then _ else _) = _; rw [if_pos h, if_neg (by rw [hc]; simp)]
theorem drop_byte (s : ByteArray) (k : Nat) (h : k < s.size) : (toL s).drop k = s[k] :: (toL s).drop (k + 1) := by
  unfold toL; rw [List.drop_eq_getElem_cons (by simpa using h)]; rfl
set_option maxRecDepth 100000 in
set_option maxHeartbeats 2000000 in
theorem spec_l26Numbers (s : ByteArray) (K : Nat) (zs : List Int) (w : World) (hs : s.size ≤ 200) (hz : numsL (toL s) 0 false [] = zs) (hK : zs.length = K) :
    Calls Tryd.prog 43 #[.string s] w (Fresh w 3 1 K (zs.map (.int .i64))) := by
  have HZ := hide hz; have HK := hide hK
  clear hz hK
  obtain ⟨i0_int, hi_int, hz0_int, hz1_int, hz2_int⟩ := info_parts info_int
  go_enter Tryd.func43, Tryd.ntmps43
  go_wp2_with fail
  go_loopw [3, 4, 5, 6] (fun o n b i wr => ∃ (k m : Nat) (a' : Option Addr) (c' : Nat) (v : Int) (inn : Bool) (out : List Int), k ≤ s.size ∧ i = .int .i64 k ∧ n = .int .i64 v ∧ b = .bool inn ∧ o = .slice a' m c' ∧ m ≤ 24 ∧ m ≤ k ∧ 0 ≤ v ∧ v ≤ 1000000001 ∧ Hid (out.length = m ∧ numsL ((toL s).drop k) v inn out = zs) ∧ wr.ownsRow w.heap.size 3 1 (.slice a' m c') m (out.map (.int .i64)) ∧ Below w.heap.size w wr) (fun _ _ _ i _ => s.size - (intOf i).toNat)
  case atStart => exact ⟨0, 0, _, _, 0, false, [], Nat.zero_le _, rfl, rfl, rfl, rfl, by omega, by omega, by omega, by omega, hide ⟨rfl, by rw [List.drop_zero]; exact HZ.out⟩, World.ownsRow_made w #[] 0 (Nat.le_refl _) (by decide) rfl, Below.alloc (Below.refl _ _) (Nat.le_refl _) _⟩
  case round =>
    obtain ⟨k, m, a', c', v, inn, out, hk, rfl, rfl, rfl, rfl, hm24, hmk, hv0, hv1, HN, hown, hB⟩ := hrel
    have hsz := hB.size
    have HO := hide hown
    clear hown
    by_cases hlt : k < s.size
    · by_cases hfull : m < 24
      · obtain ⟨c, hc⟩ : ∃ c : UInt8, s[k] = c := ⟨_, rfl⟩
        obtain ⟨cn, hcn⟩ : ∃ cn : Nat, c.toNat = cn := ⟨_, rfl⟩
        have hcl : cn < 256 := by rw [← hcn]; exact c.toNat_lt
        have hdr := drop_byte s k hlt
        rw [hc] at hdr
        by_cases hd1 : 48 ≤ cn
        · by_cases hd2 : cn ≤ 57
          · have hgood : isDig c = true := by unfold isDig; rw [hcn, decide_eq_true hd1, decide_eq_true hd2]; rfl
            obtain ⟨q, hq⟩ : ∃ q : Int, min (v * 10 + ((cn : Int) - 48)) 1000000001 = q := ⟨_, rfl⟩
            have HN1 : Hid (out.length = m ∧ numsL ((toL s).drop (k + 1)) q true out = zs) := hide ⟨HN.out.1, by
              have := HN.out.2
              rw [hdr, nums_dig (by rw [HN.out.1]; exact hfull) hgood, hcn, hq] at this; exact this⟩
            have hq2 : min (10 * v + (cn : Int) - 48) 1000000001 = q := by rw [← hq]; congr 1; omega
            have HQ := hide (And.intro (show 0 ≤ q by omega) (show q ≤ 1000000001 by omega))
            have HQ2 := hide hq2
            have t1 : decide ((cn : Int) ≥ 48) = true := decide_eq_true (by omega)
            have t2 : decide ((cn : Int) ≤ 57) = true := decide_eq_true (by omega)
            clear hdr hgood hq hq2
            go_wp2_with fail
            go_roundw
            case rel => exact ⟨k + 1, m, _, _, q, true, out, by omega, by go_num, congrArg (Value.int .i64) HQ2.out, rfl, rfl, by omega, by omega, HQ.out.1, HQ.out.2, HN1, HO.out, hB⟩
            case measure => simp [intOf]; omega
          · skip
            have hbad : isDig c = false := by unfold isDig; rw [hcn, decide_eq_false (p := cn ≤ 57) hd2]; simp
            have HN1 : Hid (out.length = m ∧ numsL ((toL s).drop (k + 1)) 0 false (if inn = true then out ++ [v] else out) = zs) := hide ⟨HN.out.1, by
              have := HN.out.2
              rw [hdr, nums_sep (by rw [HN.out.1]; exact hfull) hbad] at this; exact this⟩
            have t1 : decide ((cn : Int) ≥ 48) = true := decide_eq_true (by omega)
            have t2 : decide ((cn : Int) ≤ 57) = false := decide_eq_false (by omega)
            clear hdr hbad
            cases inn
            · go_wp2_with fail
              go_roundw
              case rel => exact ⟨k + 1, m, _, _, 0, false, out, by omega, by go_num, rfl, rfl, rfl, by omega, by omega, by omega, by omega, hide ⟨HN1.out.1, HN1.out.2⟩, HO.out, hB⟩
              case measure => simp [intOf]; omega
            · go_wp2_with (at_builtin; refine wpList_append_own _ rfl _ _ 50 rfl w.heap.size 3 i0_int (.int .i64 0) 1 8 Tryd.underlying50 hi_int hz0_int hz1_int hz2_int rfl (by decide) _ _ _ rfl (HO.out.alloc _) ⟨wr.heap.size, 0, none⟩ 1 1 [.int .i64 v] rfl rfl ?c1p ?c2p ?c3p ?c4p ?c5p ?_)
              (try case c1p => exact news_at_of _ _ _ (by go_size))
              (try case c2p => first | exact List.all_eq_true.1 rfl | rfl)
              (try case c3p => (unfold maxLen; omega))
              (try case c4p => omega)
              (try case c5p => (first | go_size | (simp; omega)))
              intro v' wp hownp hgp _
              obtain ⟨ap, cp, rfl⟩ := own_shape hownp
              obtain ⟨hBp, hsp⟩ := below_app hB HO.out (by omega) (by omega) hgp
              have HGp := hide hgp; clear hgp
              go_wp2_with fail
              go_roundw
              case rel =>
                refine ⟨k + 1, m + 1, _, _, 0, false, out ++ [v], by omega, by go_num, rfl, rfl, rfl, by omega, by omega, by omega, by omega, hide ⟨by rw [List.length_append, HN1.out.1]; rfl, HN1.out.2⟩, ?_, hBp⟩
                rw [List.map_append]; simpa using hownp
              case measure => simp [intOf]; omega
        · skip
          have hbad : isDig c = false := by unfold isDig; rw [hcn, decide_eq_false (p := 48 ≤ cn) hd1]; simp
          have HN1 : Hid (out.length = m ∧ numsL ((toL s).drop (k + 1)) 0 false (if inn = true then out ++ [v] else out) = zs) := hide ⟨HN.out.1, by
            have := HN.out.2
            rw [hdr, nums_sep (by rw [HN.out.1]; exact hfull) hbad] at this; exact this⟩
          have t1 : decide ((cn : Int) ≥ 48) = false := decide_eq_false (by omega)
          clear hdr hbad
          cases inn
          · go_wp2_with fail
            go_roundw
            case rel => exact ⟨k + 1, m, _, _, 0, false, out, by omega, by go_num, rfl, rfl, rfl, by omega, by omega, by omega, by omega, hide ⟨HN1.out.1, HN1.out.2⟩, HO.out, hB⟩
            case measure => simp [intOf]; omega
          · go_wp2_with (at_builtin; refine wpList_append_own _ rfl _ _ 50 rfl w.heap.size 3 i0_int (.int .i64 0) 1 8 Tryd.underlying50 hi_int hz0_int hz1_int hz2_int rfl (by decide) _ _ _ rfl (HO.out.alloc _) ⟨wr.heap.size, 0, none⟩ 1 1 [.int .i64 v] rfl rfl ?c1p ?c2p ?c3p ?c4p ?c5p ?_)
            (try case c1p => exact news_at_of _ _ _ (by go_size))
            (try case c2p => first | exact List.all_eq_true.1 rfl | rfl)
            (try case c3p => (unfold maxLen; omega))
            (try case c4p => omega)
            (try case c5p => (first | go_size | (simp; omega)))
            intro v' wp hownp hgp _
            obtain ⟨ap, cp, rfl⟩ := own_shape hownp
            obtain ⟨hBp, hsp⟩ := below_app hB HO.out (by omega) (by omega) hgp
            have HGp := hide hgp; clear hgp
            go_wp2_with fail
            go_roundw
            case rel =>
              refine ⟨k + 1, m + 1, _, _, 0, false, out ++ [v], by omega, by go_num, rfl, rfl, rfl, by omega, by omega, by omega, by omega, hide ⟨by rw [List.length_append, HN1.out.1]; rfl, HN1.out.2⟩, ?_, hBp⟩
              rw [List.map_append]; simpa using hownp
            case measure => simp [intOf]; omega
      · have hend : zs = out := by rw [← HN.out.2, nums_full (by rw [HN.out.1]; exact hfull)]
        subst hend
        obtain rfl : K = m := by rw [← HK.out, HN.out.1]
        have t3 : decide ((K : Int) < 24) = false := decide_eq_false (by omega)
        go_wp2_with fail
        go_ret
        exact ⟨_, _, rfl, HO.out, hB⟩
    · have hend : zs = out := by
        rw [← HN.out.2, List.drop_eq_nil_of_le (by unfold toL; simp; omega)]; rfl
      subst hend
      obtain rfl : K = m := by rw [← HK.out, HN.out.1]
      go_wp2_with fail
      go_ret
      exact ⟨_, _, rfl, HO.out, hB⟩
theorem ents_drop {zs : List Int} {i : Nat} {a b c : Int} (h : i + 3 < zs.length) (ha : zs[i]? = some a) (hb : zs[i + 1]? = some b) (hc : zs[i + 2]? = some c) : entsOf (zs.drop i) = ⟨a, b, c⟩ :: entsOf (zs.drop (i + 3)) := by
  have e : ∀ (k : Nat) (x : Int), zs[k]? = some x → zs.drop k = x :: zs.drop (k + 1) := fun k x hx => by
    obtain ⟨hl, rfl⟩ := List.getElem?_eq_some_iff.1 hx
    exact List.drop_eq_getElem_cons hl
  obtain ⟨d, hd⟩ : ∃ d, zs[i + 3]? = some d := ⟨_, List.getElem?_eq_getElem h⟩
  rw [e i a ha, e (i + 1) b hb, e (i + 2) c hc, e (i + 3) d hd]; rfl
theorem ents_end {zs : List Int} {i : Nat} (h : ¬ i + 3 < zs.length) : entsOf (zs.drop i) = [] := by
  have hl : (zs.drop i).length ≤ 3 := by rw [List.length_drop]; omega
  match zs.drop i, hl with
  | [], _ => rfl
  | [a], _ => rfl
  | [a, b], _ => rfl
  | [a, b, c], _ => rfl
  | a :: b :: c :: d :: r, h => simp at h
theorem nums_len : ∀ (l : List UInt8) (n : Int) (inn : Bool) (out : List Int), out.length ≤ 24 → (numsL l n inn out).length ≤ 24
  | [], _, _, _, h => h
  | c :: l, n, inn, out, h => by
    by_cases h2 : out.length < 24
    · cases hc : isDig c with
      | true => rw [nums_dig h2 hc]; exact nums_len l _ _ _ h
      | false =>
        rw [nums_sep h2 hc]
        refine nums_len l _ _ _ ?_
        split
        · rw [List.length_append]; simp; omega
        · exact h
    · rw [nums_full h2]; exact h
theorem dcdS_short {t : List UInt8} (h : ¬ (t.length ≤ 200 ∧ 2 ≤ (numsL t 0 false []).length)) : dcdS t = none := by
  unfold dcdS; rw [if_neg (fun h' => h ⟨h'.1, h'.2.1⟩)]
set_option maxRecDepth 100000 in
set_option maxHeartbeats 4000000 in
theorem spec_DecodeErrors (s : ByteArray) (n : Int) (K : Nat) (es : List En) (ok : Bool) (w : World) (hs : s.size ≤ 1048576) (hn : decN (dcdS (toL s)) = n) (hes : decL (dcdS (toL s)) = es) (hK : es.length = K) (hok : (dcdS (toL s)).isSome = ok) :
    Calls Tryd.prog 15 #[.string s] w (GotDec w n K es ok) := by
  have HN := hide hn; have HES := hide hes; have HK := hide hK; have HOK := hide hok
  clear hn hes hK hok
  have hls : (toL s).length = s.size := by simp [toL]
  by_cases h200 : s.size ≤ 200
  · obtain ⟨zs, hzs⟩ : ∃ zs, numsL (toL s) 0 false [] = zs := ⟨_, rfl⟩
    obtain ⟨N, hN⟩ : ∃ N, zs.length = N := ⟨_, rfl⟩
    have HZ := hide hzs; have HZN := hide hN
    clear hzs hN
    obtain ⟨i0_En, hi_En, hz0_En, hz1_En, hz2_En⟩ := info_parts info_En
    go_enter Tryd.func15, Tryd.ntmps15
    go_wp2_with fail
    refine (spec_l26Numbers s N zs _ h200 HZ.out HZN.out).mono ?_
    rintro e w1 ⟨az, cz, rfl, hoz, hB1⟩
    have HOZ := hide hoz
    have hcellz : ∀ i z, zs[i]? = some z → ∃ g, az = some ⟨g, 0, none⟩ ∧ g < w1.heap.size ∧ w1.cell? ⟨g, i, none⟩ = some (.int .i64 z) := fun i z hz => by
      have hi := (List.getElem?_eq_some_iff.1 hz).1
      obtain ⟨g, hg, _, hg2, hc⟩ := own_some HOZ.out (by have := HZN.out; omega)
      exact ⟨g, hg, hg2, (hc i (by have := HZN.out; omega)).trans (by rw [List.getElem?_map, hz]; rfl)⟩
    have HC := hide hcellz
    clear hoz hcellz
    have hsz1 := hB1.size
    have hNb : N ≤ 24 := by rw [← HZN.out, ← HZ.out]; exact nums_len _ _ _ _ (by simp)
    go_wp2_with fail
    go_loopw [6, 7] (fun v i wr => ∃ (k m : Nat) (a' : Option Addr) (c' : Nat) (L : List En), 1 ≤ k ∧ k ≤ N + 3 ∧ i = .int .i64 k ∧ v = .slice a' m c' ∧ m ≤ k ∧ Hid (L.length = m ∧ entsOf (zs.drop 1) = L ++ entsOf (zs.drop k)) ∧ wr.ownsRow w1.heap.size 58 3 (.slice a' m c') m (L.flatMap enF) ∧ Below w1.heap.size w1 wr) (fun _ i _ => N + 3 - (intOf i).toNat)
    case atStart => exact ⟨1, 0, _, _, [], by omega, by omega, rfl, rfl, by omega, hide ⟨rfl, rfl⟩, World.ownsRow_made w1 #[] 0 (Nat.le_refl _) (by decide) rfl, Below.alloc (Below.refl _ _) (Nat.le_refl _) _⟩
    case round =>
      obtain ⟨k, m, a', c', L, hk1, hkN, rfl, rfl, hmk, HL, hown, hB⟩ := hrel
      have hsz := hB.size
      have HO := hide hown
      clear hown
      by_cases hlt : k + 3 < N
      · obtain ⟨za, hza⟩ : ∃ z, zs[k]? = some z := ⟨_, List.getElem?_eq_getElem (by have := HZN.out; omega)⟩
        obtain ⟨zb, hzb⟩ : ∃ z, zs[k + 1]? = some z := ⟨_, List.getElem?_eq_getElem (by have := HZN.out; omega)⟩
        obtain ⟨zc, hzc⟩ : ∃ z, zs[k + 2]? = some z := ⟨_, List.getElem?_eq_getElem (by have := HZN.out; omega)⟩
        obtain ⟨g, rfl, hgl, ca⟩ := HC.out _ _ hza
        obtain ⟨g', e', _, cb⟩ := HC.out _ _ hzb
        obtain rfl : g = g' := by injection e' with e'; injection e'
        obtain ⟨g', e'', _, cc⟩ := HC.out _ _ hzc
        obtain rfl : g = g' := by injection e'' with e''; injection e''
        clear e' e''
        have HE := hide (ents_drop (by have := HZN.out; omega) hza hzb hzc)
        have e0 := ((bcell hB).1 g _ hgl).trans ca
        have e1 := ((bcell hB).1 g _ hgl).trans cb
        have e2 := ((bcell hB).1 g _ hgl).trans cc
        obtain ⟨k1, hk1'⟩ : ∃ q, k + 1 = q := ⟨_, rfl⟩
        obtain ⟨k2, hk2'⟩ : ∃ q, k + 2 = q := ⟨_, rfl⟩
        rw [hk1'] at e1
        rw [hk2'] at e2
        have hgr : g < wr.heap.size := by omega
        have wa : IntKind.i64.wrap ((k : Int) + 1) = (k1 : Int) := by rw [IntWalk.i64_in _ (by omega)]; omega
        have wb : IntKind.i64.wrap ((k : Int) + 2) = (k2 : Int) := by rw [IntWalk.i64_in _ (by omega)]; omega
        have b1 : (0 : Int) ≤ (k : Int) := by omega
        have b2 : (k : Int) < (N : Int) := by omega
        have b3 : (0 : Int) ≤ (k1 : Int) := by omega
        have b4 : (k1 : Int) < (N : Int) := by omega
        have b5 : (0 : Int) ≤ (k2 : Int) := by omega
        have b6 : (k2 : Int) < (N : Int) := by omega
        have hmb : m ≤ 1048576 := by omega
        have t5 : decide ((k : Int) + 3 < (N : Int)) = true := decide_eq_true (by omega)
        clear hza hzb hzc ca cb cc hk1' hk2'
        go_wp2_with fail
        go_region_held3 (fun v => v.cell? ⟨g, k, none⟩ = some (.int .i64 za) ∧ v.cell? ⟨g, k1, none⟩ = some (.int .i64 zb) ∧ v.cell? ⟨g, k2, none⟩ = some (.int .i64 zc)) (first | go_keep | (go_split_ands; refine ⟨?_, ?_, ?_⟩ <;> (rw [hgp.cell_far _ (by go_size) (by first | exact own_far HO.out (by omega) | exact own_far HO.out (by dsimp only; omega) | assumption)]; assumption))) ((refine step_append_lies _ (by rfl) _ _ _ (by rfl) (w1.heap.size) 58 i0_En _ 3 24 Tryd.underlying25 hi_En hz0_En hz1_En hz2_En rfl (by omega) _ _ _ (by rfl) ((HO.out.alloc _).drew) ⟨wr.heap.size, 0, none⟩ 1 1 [.int .i64 za, .int .i64 zb, .int .i64 zc] (by rfl) (by rfl) (World.news_of_block (cs := #[.int .i64 za, .int .i64 zb, .int .i64 zc]) (t := 58) (fr := (0, 0)) (heap_alloc_new _ _)) (List.all_eq_true.1 rfl) (by omega) (by unfold maxLen; omega) (by omega) (by first | go_size | (simp; omega)) (wr.heap.size + 1) (by simp) ?_; intro gp cp wp hownp hgp hatp hltp))
        obtain ⟨hBp, hsp⟩ := below_appr hB HO.out (by omega) (by omega) hgp
        have HGp := hide hgp; clear hgp
        go_wp2_with fail
        go_roundw
        case rel =>
          refine ⟨k + 3, m + 1, _, _, L ++ [⟨za, zb, zc⟩], by omega, by omega, by go_num, rfl, by omega, hide ⟨by rw [List.length_append, HL.out.1]; rfl, by rw [HL.out.2, HE.out, List.append_assoc]; rfl⟩, ?_, hBp⟩
          rw [List.flatMap_append]; simpa [enF] using hownp
        case measure => simp [intOf]; omega
      · have hLe : L = entsOf (zs.drop 1) := by rw [HL.out.2, ents_end (by rw [HZN.out]; exact hlt), List.append_nil]
        have hdc : dcdS (toL s) = if 2 ≤ N ∧ toL s ≠ [] ∧ enc (zs.headD 0) L = toL s then some (zs.headD 0, L) else none := by
          unfold dcdS; rw [HZ.out, ← hLe, HZN.out]; simp [hls, h200]
        have HD := hide hdc
        have t5 : decide ((k : Int) + 3 < (N : Int)) = false := decide_eq_false (by omega)
        have hBw : Below w.heap.size w wr := bthenS hB1 hB
        have hfail : dcdS (toL s) = none → GotDec w n K es ok (.returned (.tuple #[.int .i64 0, .slice (some ⟨wr.heap.size, 0, none⟩) 0 0, .bool false])) (wr.alloc (.cells #[] 58)) := fun hnone => by
          obtain rfl : 0 = n := by rw [← HN.out, hnone]; rfl
          obtain rfl : [] = es := by rw [← HES.out, hnone]; rfl
          obtain rfl : 0 = K := by rw [← HK.out]; rfl
          obtain rfl : false = ok := by rw [← HOK.out, hnone]; rfl
          exact ⟨_, _, rfl, World.ownsRow_made wr #[] 0 hBw.size (by decide) rfl, Below.alloc hBw hBw.size _⟩
        have HF := hide hfail
        clear hLe hdc hls hfail
        by_cases hN2 : N < 2
        · have t6 : decide ((N : Int) < 2) = true := decide_eq_true (by omega)
          have HR := hide (HF.out (by rw [HD.out, if_neg (fun h => by omega)]))
          go_wp2_with fail
          refine bodyPost_ret (by simp [results, Tryd.results15, go_sem, *]; try rfl) rfl ?_
          exact HR.out
        · have t6 : decide ((N : Int) < 2) = false := decide_eq_false (by omega)
          by_cases hs0 : s.toList = []
          · have hs1 : toL s = [] := by unfold toL; rw [← ByteArray.toList_eq]; exact hs0
            have HR := hide (HF.out (by rw [HD.out, if_neg (fun h => h.2.1 hs1)]))
            clear hs1
            go_wp2_with fail
            refine bodyPost_ret (by simp [results, Tryd.results15, go_sem, *]; try rfl) rfl ?_
            exact HR.out
          · have hs1 : toL s ≠ [] := by unfold toL; rw [← ByteArray.toList_eq]; exact hs0
            have HS1 := hide hs1
            have hs0b : s.toList.isEmpty = false := by cases h : s.toList with | nil => exact absurd h hs0 | cons a l => rfl
            obtain ⟨z0, hz0⟩ : ∃ z, zs[0]? = some z := ⟨_, List.getElem?_eq_getElem (by have := HZN.out; omega)⟩
            have hh : zs.headD 0 = z0 := by
              cases zs with
              | nil => simp at hz0
              | cons a l => simp at hz0; simp [hz0]
            rw [hh] at HD
            obtain ⟨g, rfl, hgl, ca⟩ := HC.out _ _ hz0
            have e0 := ((bcell hB).1 g _ hgl).trans ca
            have hb2 : (0 : Int) < (N : Int) := by omega
            have HIS := hide (isStructs_own enF_len (by omega) HO.out)
            clear hs1 hz0 hh ca
            go_wp2_with fail
            refine (spec_EncodeErrors z0 a' m c' L _ _ HIS.out (by omega) rfl).mono ?_
            rintro e w5 ⟨rfl, h5⟩
            have hB5 : Below w.heap.size w w5 := bthenS hBw h5
            have HO5 := hide (own_base (own_next HO.out h5) (show w.heap.size ≤ w1.heap.size from hB1.size))
            have e5 := ((bcell h5).1 g 0 (by omega)).trans e0
            by_cases ht : enc z0 L = toL s
            · have hst : strOf (enc z0 L) = s := by rw [ht]; rfl
              have hsome : dcdS (toL s) = some (z0, L) := by rw [HD.out, if_pos ⟨by omega, HS1.out, ht⟩]
              obtain rfl : z0 = n := by rw [← HN.out, hsome]; rfl
              obtain rfl : L = es := by rw [← HES.out, hsome]; rfl
              obtain rfl : m = K := by rw [← HK.out]; exact HL.out.1.symm
              obtain rfl : true = ok := by rw [← HOK.out, hsome]; rfl
              rw [hst]
              clear hsome hst ht
              go_wp2_with fail
              refine bodyPost_ret (by simp [results, Tryd.results15, go_sem, *]; try rfl) rfl ?_
              exact ⟨_, _, rfl, HO5.out, hB5⟩
            · have hst : ¬ strOf (enc z0 L) = s := fun h => ht (by rw [← h]; rfl)
              have hnone : dcdS (toL s) = none := by rw [HD.out, if_neg (fun h => ht h.2.2)]
              obtain rfl : 0 = n := by rw [← HN.out, hnone]; rfl
              obtain rfl : [] = es := by rw [← HES.out, hnone]; rfl
              obtain rfl : 0 = K := by rw [← HK.out]; rfl
              obtain rfl : false = ok := by rw [← HOK.out, hnone]; rfl
              obtain ⟨u, hu⟩ : ∃ u, strOf (enc z0 L) = u := ⟨_, rfl⟩
              rw [hu] at hst ⊢
              have hne : ¬ u.toList = s.toList := fun h => hst (by rw [ByteArray.toList_eq, ByteArray.toList_eq] at h; exact ByteArray.ext (Array.toList_inj.1 h))
              have hne2 : (u.toList == s.toList) = false := by rw [beq_eq_false_iff_ne]; exact hne
              clear hnone ht hu
              go_wp2_with fail
              refine bodyPost_ret (by simp [results, Tryd.results15, go_sem, *]; try rfl) rfl ?_
              exact ⟨_, _, rfl, World.ownsRow_made w5 #[] 0 hB5.size (by decide) rfl, Below.alloc hB5 hB5.size _⟩
  · have hnone : dcdS (toL s) = none := dcdS_short (fun h => h200 (by omega))
    obtain rfl : 0 = n := by rw [← HN.out, hnone]; rfl
    obtain rfl : [] = es := by rw [← HES.out, hnone]; rfl
    obtain rfl : 0 = K := by rw [← HK.out]; rfl
    obtain rfl : false = ok := by rw [← HOK.out, hnone]; rfl
    have t1 : decide ((s.size : Int) > 200) = true := decide_eq_true (by omega)
    clear hnone hls
    go_enter Tryd.func15, Tryd.ntmps15
    go_wp2_with fail
    refine bodyPost_ret (by simp [results, Tryd.results15, go_sem, *]; try rfl) rfl ?_
    exact ⟨_, _, rfl, World.ownsRow_made w #[] 0 (Nat.le_refl _) (by decide) rfl, Below.alloc (Below.refl _ _) (Nat.le_refl _) _⟩
end Go.Proofs.YtheifhjnbpbkhaaDoor
