/- Reading an error log's text, the program's side: a number, then the whole text. -/
import Derived.Test.YtheifhjnbpbkhaaDoorTxtW
set_option linter.unusedSimpArgs false
set_option linter.unusedVariables false
namespace Go.Proofs.YtheifhjnbpbkhaaDoor
open Go.RowKit Go.ChangeShapes Go.WideShapes Go.ChangeAt Go.Joins Go.Deep
open Go.ChangeMaps (open_string shut_string)
theorem pUok_no {l : List UInt8} (h : pUok l = false) : pU l = 0 := by unfold pU; rw [if_neg (by rw [h]; simp)]
theorem all_dig_no {l : List UInt8} {k : Nat} {c : UInt8} (hc : l[k]? = some c) (h : isDig c = false) : l.all isDig = false := by
  cases h1 : l.all isDig with
  | false => rfl
  | true =>
    have := List.all_eq_true.1 h1 c (List.mem_of_getElem? hc)
    rw [h] at this; cases this
theorem byte_at {s : ByteArray} {k : Nat} (h : k < s.size) : s.data.toList[k]? = some s[k] := by
  rw [List.getElem?_eq_getElem (by simpa using h)]; rfl
theorem pow10_le {k : Nat} (h : k ≤ 10) : 10 ^ k ≤ 10000000000 := Nat.le_trans (Nat.pow_le_pow_right (by decide) h) (by decide)
set_option maxRecDepth 100000 in
set_option maxHeartbeats 2000000 in
theorem impl_ParseUint (s : ByteArray) (v : Int) (ok : Bool) (w : World) (hv : pU s.data.toList = v) (hok : pUok s.data.toList = ok) (hm : s.size ≤ 9223372036854775807) :
    Calls Tryd.prog 45 #[.string s] w fun e w' => e = .returned (.tuple #[.int .i64 v, .bool ok]) ∧ w = w' := by
  have hlen : s.data.toList.length = s.size := by simp
  by_cases h0 : s.size = 0
  · have hk : pUok s.data.toList = false := by unfold pUok; rw [hlen, h0]; rfl
    obtain rfl : false = ok := hk.symm.trans hok
    obtain rfl : 0 = v := (pUok_no hk).symm.trans hv
    have hz : ((s.size : Int) == 0) = true := by simp [h0]
    clear hk hok hv hlen h0
    go_enter Tryd.func45, Tryd.ntmps45
    go_wp2_with fail
    go_ret2
    exact ⟨rfl, rfl⟩
  · have hz : ((s.size : Int) == 0) = false := by rw [beq_eq_false_iff_ne]; omega
    by_cases h10 : s.size ≤ 10
    · have hz10 : decide ((s.size : Int) > 10) = false := decide_eq_false (by omega)
      by_cases h1 : s.size ≤ 1
      · have z1 : decide ((s.size : Int) > 1) = false := decide_eq_false (by omega)
        have HFIRST : Hid ((decide (s.size ≤ 1) || !(s.data.toList[0]? == some 48)) = true) := hide (by rw [decide_eq_true h1]; rfl)
        have HV := hide hv; have HOK := hide hok
        clear hv hok
        go_enter Tryd.func45, Tryd.ntmps45
        go_wp2_with fail
        go_loop [5, 4] (fun i n => ∃ k m : Nat, k ≤ s.size ∧ i = .int .i64 k ∧ n = .int .i64 m ∧ Hid (m + 1 ≤ 10 ^ k) ∧ Hid ((m : Int) = val (s.data.toList.take k)) ∧ Hid ((s.data.toList.take k).all isDig = true)) (fun i _ => s.size - (intOf i).toNat)
        case atStart => exact ⟨0, 0, Nat.zero_le _, rfl, rfl, hide (Nat.le_refl _), hide (by simp [val]), hide (by simp)⟩
        case round =>
          obtain ⟨k, m, hk, rfl, rfl, HB, HM, HD⟩ := hrel
          have hmb : m ≤ 10000000000 := by have h1 := HB.out; have h2 := pow10_le (k := k) (by omega); omega
          by_cases hlt : k < s.size
          · obtain ⟨c, hc⟩ : ∃ c : UInt8, s[k] = c := ⟨_, rfl⟩
            obtain ⟨cn, hcn⟩ : ∃ cn : Nat, c.toNat = cn := ⟨_, rfl⟩
            have hcl : cn < 256 := by rw [← hcn]; exact c.toNat_lt
            have hca := byte_at hlt
            rw [hc] at hca
            by_cases hd1 : cn < 48
            · have hbad : isDig c = false := by unfold isDig; rw [hcn, decide_eq_false (by omega)]; rfl
              have hkf : pUok s.data.toList = false := by unfold pUok; rw [all_dig_no hca hbad]; simp
              obtain rfl : false = ok := hkf.symm.trans HOK.out
              obtain rfl : 0 = v := (pUok_no hkf).symm.trans HV.out
              have t1 : decide ((cn : Int) < 48) = true := decide_eq_true (by omega)
              clear hca hbad hkf
              go_wp2_with fail
              go_ret2
              exact ⟨rfl, rfl⟩
            · by_cases hd2 : cn ≤ 57
              · have hgood : isDig c = true := by unfold isDig; rw [hcn, decide_eq_true (by omega), decide_eq_true (by omega)]; rfl
                have HN1 : Hid (m * 10 + (cn - 48) + 1 ≤ 10 ^ (k + 1)) := hide (by have := HB.out; rw [Nat.pow_succ]; omega)
                have HN2 : Hid (((m * 10 + (cn - 48) : Nat) : Int) = val (s.data.toList.take (k + 1))) := hide (by
                  rw [take_byte s k hlt, val_snoc, hc, ← HM.out]; unfold valF; rw [hcn]; omega)
                have HN3 : Hid ((s.data.toList.take (k + 1)).all isDig = true) := hide (by
                  rw [take_byte s k hlt, List.all_append, HD.out, hc, List.all_cons, hgood]; rfl)
                obtain ⟨q, hq⟩ : ∃ q : Nat, m * 10 + (cn - 48) = q := ⟨_, rfl⟩
                obtain ⟨e, he⟩ : ∃ e : Nat, cn = e + 48 := ⟨cn - 48, by omega⟩
                rw [hq] at HN1 HN2
                have hqe : (m : Int) * 10 + (e : Int) = (q : Int) := by omega
                have hqb : q ≤ 200000000000 := by omega
                have t1 : decide ((cn : Int) < 48) = false := decide_eq_false (by omega)
                have t2 : decide ((cn : Int) > 57) = false := decide_eq_false (by omega)
                have t3 : (cn : Int) - 48 = (e : Int) := by omega
                have he9 : e ≤ 9 := by omega
                clear hca hgood hq he
                go_wp2_with fail
                go_round
                case rel => exact ⟨k + 1, q, by omega, by go_num, rfl, HN1, HN2, HN3⟩
                case measure => simp [intOf]; omega
              · have hbad : isDig c = false := by unfold isDig; rw [hcn, decide_eq_false (p := cn ≤ 57) (by omega)]; simp
                have hkf : pUok s.data.toList = false := by unfold pUok; rw [all_dig_no hca hbad]; simp
                obtain rfl : false = ok := hkf.symm.trans HOK.out
                obtain rfl : 0 = v := (pUok_no hkf).symm.trans HV.out
                have t1 : decide ((cn : Int) < 48) = false := decide_eq_false (by omega)
                have t2 : decide ((cn : Int) > 57) = true := decide_eq_true (by omega)
                clear hca hbad hkf
                go_wp2_with fail
                go_ret2
                exact ⟨rfl, rfl⟩
          · have hke : k = s.size := by omega
            have e1 : s.data.toList.take k = s.data.toList := List.take_of_length_le (by rw [hlen]; omega)
            have hval : (m : Int) = val s.data.toList := by rw [HM.out, e1]
            have hall : s.data.toList.all isDig = true := by have := HD.out; rwa [e1] at this
            by_cases hbig : m ≤ 1000000000
            · have hkt : pUok s.data.toList = true := by
                unfold pUok
                rw [hall, ← hval, hlen, decide_eq_true (p := 1 ≤ s.size) (by omega), decide_eq_true h10, decide_eq_true (p := (m : Int) ≤ 1000000000) (by omega), HFIRST.out]; rfl
              obtain rfl : true = ok := hkt.symm.trans HOK.out
              obtain rfl : (m : Int) = v := by rw [← HV.out]; unfold pU; rw [if_pos hkt, hval]
              have t1 : decide ((m : Int) > 1000000000) = false := decide_eq_false (by omega)
              clear hval hall hkt e1
              go_wp2_with fail
              go_ret2
              exact ⟨rfl, rfl⟩
            · have hkf : pUok s.data.toList = false := by
                unfold pUok; rw [← hval, decide_eq_false (p := (m : Int) ≤ 1000000000) (by omega)]; simp
              obtain rfl : false = ok := hkf.symm.trans HOK.out
              obtain rfl : 0 = v := (pUok_no hkf).symm.trans HV.out
              have t1 : decide ((m : Int) > 1000000000) = true := decide_eq_true (by omega)
              clear hval hall hkf e1
              go_wp2_with fail
              go_ret2
              exact ⟨rfl, rfl⟩
      · have z1 : decide ((s.size : Int) > 1) = true := decide_eq_true (by omega)
        obtain ⟨c0, hc0⟩ : ∃ c : UInt8, s[0] = c := ⟨_, rfl⟩
        have hb0 := byte_at (s := s) (k := 0) (by omega)
        rw [hc0] at hb0
        by_cases h48 : c0 = 48
        · have hk : pUok s.data.toList = false := by
            unfold pUok; rw [hb0, h48, hlen, decide_eq_false h1]; simp
          obtain rfl : false = ok := hk.symm.trans hok
          obtain rfl : 0 = v := (pUok_no hk).symm.trans hv
          subst h48
          clear hk hok hv hb0
          go_enter Tryd.func45, Tryd.ntmps45
          go_wp2_with fail
          go_ret2
          exact ⟨rfl, rfl⟩
        · have HFIRST : Hid ((decide (s.size ≤ 1) || !(s.data.toList[0]? == some 48)) = true) := hide (by rw [hb0]; simp [h48])
          obtain ⟨n0, hn0⟩ : ∃ n : Nat, c0.toNat = n := ⟨_, rfl⟩
          have h4 : ¬ n0 = 48 := fun e => h48 (by rw [← hn0] at e; exact UInt8.toNat_inj.1 (by rw [e]; rfl))
          have z2 : ((n0 : Int) == 48) = false := by rw [beq_eq_false_iff_ne]; omega
          have HV := hide hv; have HOK := hide hok
          clear hv hok hb0 h48
          go_enter Tryd.func45, Tryd.ntmps45
          go_wp2_with fail
          go_loop [5, 4] (fun i n => ∃ k m : Nat, k ≤ s.size ∧ i = .int .i64 k ∧ n = .int .i64 m ∧ Hid (m + 1 ≤ 10 ^ k) ∧ Hid ((m : Int) = val (s.data.toList.take k)) ∧ Hid ((s.data.toList.take k).all isDig = true)) (fun i _ => s.size - (intOf i).toNat)
          case atStart => exact ⟨0, 0, Nat.zero_le _, rfl, rfl, hide (Nat.le_refl _), hide (by simp [val]), hide (by simp)⟩
          case round =>
            obtain ⟨k, m, hk, rfl, rfl, HB, HM, HD⟩ := hrel
            have hmb : m ≤ 10000000000 := by have h1 := HB.out; have h2 := pow10_le (k := k) (by omega); omega
            by_cases hlt : k < s.size
            · obtain ⟨c, hc⟩ : ∃ c : UInt8, s[k] = c := ⟨_, rfl⟩
              obtain ⟨cn, hcn⟩ : ∃ cn : Nat, c.toNat = cn := ⟨_, rfl⟩
              have hcl : cn < 256 := by rw [← hcn]; exact c.toNat_lt
              have hca := byte_at hlt
              rw [hc] at hca
              by_cases hd1 : cn < 48
              · have hbad : isDig c = false := by unfold isDig; rw [hcn, decide_eq_false (by omega)]; rfl
                have hkf : pUok s.data.toList = false := by unfold pUok; rw [all_dig_no hca hbad]; simp
                obtain rfl : false = ok := hkf.symm.trans HOK.out
                obtain rfl : 0 = v := (pUok_no hkf).symm.trans HV.out
                have t1 : decide ((cn : Int) < 48) = true := decide_eq_true (by omega)
                clear hca hbad hkf
                go_wp2_with fail
                go_ret2
                exact ⟨rfl, rfl⟩
              · by_cases hd2 : cn ≤ 57
                · have hgood : isDig c = true := by unfold isDig; rw [hcn, decide_eq_true (by omega), decide_eq_true (by omega)]; rfl
                  have HN1 : Hid (m * 10 + (cn - 48) + 1 ≤ 10 ^ (k + 1)) := hide (by have := HB.out; rw [Nat.pow_succ]; omega)
                  have HN2 : Hid (((m * 10 + (cn - 48) : Nat) : Int) = val (s.data.toList.take (k + 1))) := hide (by
                    rw [take_byte s k hlt, val_snoc, hc, ← HM.out]; unfold valF; rw [hcn]; omega)
                  have HN3 : Hid ((s.data.toList.take (k + 1)).all isDig = true) := hide (by
                    rw [take_byte s k hlt, List.all_append, HD.out, hc, List.all_cons, hgood]; rfl)
                  obtain ⟨q, hq⟩ : ∃ q : Nat, m * 10 + (cn - 48) = q := ⟨_, rfl⟩
                  obtain ⟨e, he⟩ : ∃ e : Nat, cn = e + 48 := ⟨cn - 48, by omega⟩
                  rw [hq] at HN1 HN2
                  have hqe : (m : Int) * 10 + (e : Int) = (q : Int) := by omega
                  have hqb : q ≤ 200000000000 := by omega
                  have t1 : decide ((cn : Int) < 48) = false := decide_eq_false (by omega)
                  have t2 : decide ((cn : Int) > 57) = false := decide_eq_false (by omega)
                  have t3 : (cn : Int) - 48 = (e : Int) := by omega
                  have he9 : e ≤ 9 := by omega
                  clear hca hgood hq he
                  go_wp2_with fail
                  go_round
                  case rel => exact ⟨k + 1, q, by omega, by go_num, rfl, HN1, HN2, HN3⟩
                  case measure => simp [intOf]; omega
                · have hbad : isDig c = false := by unfold isDig; rw [hcn, decide_eq_false (p := cn ≤ 57) (by omega)]; simp
                  have hkf : pUok s.data.toList = false := by unfold pUok; rw [all_dig_no hca hbad]; simp
                  obtain rfl : false = ok := hkf.symm.trans HOK.out
                  obtain rfl : 0 = v := (pUok_no hkf).symm.trans HV.out
                  have t1 : decide ((cn : Int) < 48) = false := decide_eq_false (by omega)
                  have t2 : decide ((cn : Int) > 57) = true := decide_eq_true (by omega)
                  clear hca hbad hkf
                  go_wp2_with fail
                  go_ret2
                  exact ⟨rfl, rfl⟩
            · have hke : k = s.size := by omega
              have e1 : s.data.toList.take k = s.data.toList := List.take_of_length_le (by rw [hlen]; omega)
              have hval : (m : Int) = val s.data.toList := by rw [HM.out, e1]
              have hall : s.data.toList.all isDig = true := by have := HD.out; rwa [e1] at this
              by_cases hbig : m ≤ 1000000000
              · have hkt : pUok s.data.toList = true := by
                  unfold pUok
                  rw [hall, ← hval, hlen, decide_eq_true (p := 1 ≤ s.size) (by omega), decide_eq_true h10, decide_eq_true (p := (m : Int) ≤ 1000000000) (by omega), HFIRST.out]; rfl
                obtain rfl : true = ok := hkt.symm.trans HOK.out
                obtain rfl : (m : Int) = v := by rw [← HV.out]; unfold pU; rw [if_pos hkt, hval]
                have t1 : decide ((m : Int) > 1000000000) = false := decide_eq_false (by omega)
                clear hval hall hkt e1
                go_wp2_with fail
                go_ret2
                exact ⟨rfl, rfl⟩
              · have hkf : pUok s.data.toList = false := by
                  unfold pUok; rw [← hval, decide_eq_false (p := (m : Int) ≤ 1000000000) (by omega)]; simp
                obtain rfl : false = ok := hkf.symm.trans HOK.out
                obtain rfl : 0 = v := (pUok_no hkf).symm.trans HV.out
                have t1 : decide ((m : Int) > 1000000000) = true := decide_eq_true (by omega)
                clear hval hall hkf e1
                go_wp2_with fail
                go_ret2
                exact ⟨rfl, rfl⟩
    · have hk : pUok s.data.toList = false := by unfold pUok; rw [hlen, show decide (s.size ≤ 10) = false by simpa using h10]; simp
      obtain rfl : false = ok := hk.symm.trans hok
      obtain rfl : 0 = v := (pUok_no hk).symm.trans hv
      have hz10 : decide ((s.size : Int) > 10) = true := decide_eq_true (by omega)
      clear hk hok hv hlen h0
      go_enter Tryd.func45, Tryd.ntmps45
      go_wp2_with fail
      go_ret2
      exact ⟨rfl, rfl⟩
end Go.Proofs.YtheifhjnbpbkhaaDoor
