/- The encoding of an error log's version: the reference's and the program's. -/
import Derived.Test.YtheifhjnbpbkhaaDoorStrW
import Derived.Test.YtheifhjnbpbkhaaDoorErrors3
import Derived.Deep.DeepCutAuto
set_option linter.unusedSimpArgs false
set_option linter.unusedVariables false
namespace Go.Proofs.YtheifhjnbpbkhaaDoor
open Go.RowKit Go.ChangeShapes Go.WideShapes Go.ChangeAt Go.Joins Go.Deep
open Go.ChangeMaps (open_string shut_string)
theorem sumB_snoc (l : List UInt8) (c : UInt8) : sumB (l ++ [c]) = sumB l + c.toNat := by
  induction l with
  | nil => simp [sumB]
  | cons a l ih => simp only [List.cons_append, sumB, ih]; omega
theorem take_byte (s : ByteArray) (k : Nat) (h : k < s.size) : s.data.toList.take (k + 1) = s.data.toList.take k ++ [s[k]] := by
  rw [List.take_succ_eq_append_getElem (by simpa using h)]; rfl
theorem sumB_bd (l : List UInt8) : sumB l ≤ 255 * l.length := by
  induction l with
  | nil => simp [sumB]
  | cons a l ih => simp only [sumB, List.length_cons]; have := a.toNat_lt; omega
set_option maxHeartbeats 1000000 in
theorem spec_l26Sum (s : ByteArray) (r : Nat) (hr : sumB s.data.toList % 9973 = r) (w : World) (hs : s.size ≤ 1000000) :
    Calls Tryd.prog 38 #[.string s] w fun e w' => e = .returned (.int .i64 (r : Int)) ∧ w = w' := by
  have HR := hide hr
  clear hr
  go_enter Tryd.func38, Tryd.ntmps38
  go_wp2_with fail
  go_loop [3, 4] (fun n i => ∃ k m : Nat, k ≤ s.size ∧ i = .int .i64 k ∧ n = .int .i64 m ∧ m < 9973 ∧ Hid (m = sumB (s.data.toList.take k) % 9973)) (fun _ i => s.size - (intOf i).toNat)
  case atStart => exact ⟨0, 0, Nat.zero_le _, rfl, rfl, by decide, hide (by simp [sumB])⟩
  case round =>
    obtain ⟨k, m, hk, rfl, rfl, hm, HM⟩ := hrel
    by_cases hlt : k < s.size
    · obtain ⟨c, hc⟩ : ∃ c : UInt8, s[k] = c := ⟨_, rfl⟩
      have hcl := c.toNat_lt
      obtain ⟨q, hq⟩ : ∃ q : Nat, (m + c.toNat) % 9973 = q := ⟨_, rfl⟩
      have HN : Hid (q = sumB (s.data.toList.take (k + 1)) % 9973) := hide (by rw [take_byte s k hlt, sumB_snoc, hc, ← hq, HM.out, Nat.mod_add_mod])
      have hq9 : q < 9973 := by omega
      have hmod : ((m : Int) + (c.toNat : Int)).tmod 9973 = (q : Int) := by rw [Int.tmod_eq_emod_of_nonneg (by omega)]; omega
      clear hq HM
      go_wp2_with fail
      go_round
      case rel => exact ⟨k + 1, q, by omega, by go_num, rfl, hq9, HN⟩
      case measure => simp [intOf]; omega
    · have hk' : k = s.size := by omega
      have HF : Hid (m = sumB s.data.toList % 9973) := hide (by rw [HM.out, hk', List.take_of_length_le (by simp)])
      clear HM hk'
      go_wp2_with fail
      go_ret
      exact ⟨ret_int (by have := HF.out; have := HR.out; omega), rfl⟩
theorem btw_is (f : FuncId) (x a b : Int) (v : Bool) (w : World) (hv : btw x a b = v) (h : Calls Tryd.prog f #[.int .i64 x, .int .i64 a, .int .i64 b] w fun e w' => e = .returned (.bool (btw x a b)) ∧ w = w') :
    Calls Tryd.prog f #[.int .i64 x, .int .i64 a, .int .i64 b] w fun e w' => e = .returned (.bool v) ∧ Below w.heap.size w w' := by
  subst hv; exact h.mono fun e w' ⟨h1, h2⟩ => ⟨h1, h2 ▸ Below.refl _ _⟩
theorem add_run {x y z : List UInt8} (h : x ++ y = z) (hl : z.length ≤ 100000) : ∀ w : World, (Op.stringOp .add (strOf x) (strOf y)).run Tryd.prog w = .ok (.string (strOf z)) w := fun w => by
  rw [run_string_add_sum w _ _ (by rw [strOf_size, strOf_size]; have := congrArg List.length h; rw [List.length_append] at this; omega), strOf_add, h]
theorem bthenS {W v y : World} (h : Below W.heap.size W v) (k : Below v.heap.size v y) : Below W.heap.size W y := bthen h k h.size
/-- What a region that writes an entry holds on to. -/
theorem keep_en {w v : World} {e : En} {b o : Nat} (hl : b < w.heap.size) (e0 : w.cell? ⟨b, o, none⟩ = some (.int .i64 e.line)) (e1 : w.cell? ⟨b, o + 1, none⟩ = some (.int .i64 e.code)) (e2 : w.cell? ⟨b, o + 2, none⟩ = some (.int .i64 e.times)) (hb : Below w.heap.size w v) :
    v.cell? ⟨b, o, none⟩ = some (.int .i64 e.line) ∧ v.cell? ⟨b, o + 1, none⟩ = some (.int .i64 e.code) ∧ v.cell? ⟨b, o + 2, none⟩ = some (.int .i64 e.times) ∧ Below w.heap.size w v :=
  ⟨((bcell hb).1 b _ hl).trans e0, ((bcell hb).1 b _ hl).trans e1, ((bcell hb).1 b _ hl).trans e2, hb⟩
/-- The text of the first entries, ahead of the sum. -/
def pre (n : Int) (es : List En) (k : Nat) : List UInt8 := decI n ++ ents (es.take k)
theorem ents_snoc (es : List En) (e : En) : ents (es ++ [e]) = ents es ++ 32 :: ent e := by
  induction es with
  | nil => simp [ents]
  | cons a es ih => simp [ents, ih]
theorem pre_next {n : Int} {es : List En} {k : Nat} {e : En} (he : es[k]? = some e) : pre n es (k + 1) = pre n es k ++ 32 :: ent e := by
  unfold pre; rw [take_snoc he, ents_snoc]; simp
theorem pre_len {n : Int} {es : List En} (h : encOk n es = true) (k : Nat) : (pre n es k).length ≤ 76 := by
  obtain ⟨h1, h2⟩ := encOk_parts h
  have hl : es.length ≤ 6 := (encB_len h).2.2
  have a := ents_len (es := es.take k) (fun e he => ok_entries h1 e (List.mem_of_mem_take he))
  have b := dec_len n.toNat 9 (by have := num_bd h2; omega)
  have c : (es.take k).length ≤ 6 := by rw [List.length_take]; omega
  unfold pre decI; rw [List.length_append]; omega
theorem enc_no {n : Int} {es : List En} (h : encOk n es = false) : enc n es = [] := by unfold enc; rw [if_neg (by rw [h]; simp)]
theorem pre_all {n : Int} {es : List En} {k : Nat} (h : es.length = k) : pre n es k ++ [32] = bodyB n es := by unfold pre bodyB; rw [List.take_of_length_le (by omega), List.append_assoc]
set_option maxRecDepth 100000 in
set_option maxHeartbeats 4000000 in
theorem spec_EncodeErrors (number : Int) (a : Option Addr) (n c : Nat) (es : List En) (t : List UInt8) (w : World) (ha : IsStructs enF 3 w a n c es) (hs : n ≤ 1048576) (ht : enc number es = t) :
    Calls Tryd.prog 11 #[.int .i64 number, .slice a n c] w fun e w' => e = .returned (.string (strOf t)) ∧ Below w.heap.size w w' := by
  have HA := hide ha; have HT := hide ht
  have hc := ha.2.1
  have hln := ha.1
  clear ha ht
  cases q1 : errorsOkB es
  · have he : t = [] := by rw [← HT.out, enc_no (by unfold encOk; rw [q1]; rfl)]
    subst he
    go_enter Tryd.func11, Tryd.ntmps11
    go_wp2_with fail
    refine (spec_ErrorsOk_is a n c es false q1 _ HA.out hs).mono ?_
    rintro e w1 ⟨rfl, h1⟩
    go_wp2_with fail
    go_ret
    exact ⟨rfl, h1⟩
  · cases q2 : numOk number
    · have he : t = [] := by rw [← HT.out, enc_no (by unfold encOk; rw [q2]; simp)]
      subst he
      go_enter Tryd.func11, Tryd.ntmps11
      go_wp2_with fail
      refine (spec_ErrorsOk_is a n c es true q1 _ HA.out hs).mono ?_
      rintro e w1 ⟨rfl, h1⟩
      go_wp2_with fail
      refine (btw_is 36 number 1 1000000000 false _ q2 (spec_l01In _ _ _ _)).mono ?_
      rintro e w2 ⟨rfl, h2⟩
      go_wp2_with fail
      go_ret
      exact ⟨rfl, bthen h1 h2 h1.size⟩
    · have hok : encOk number es = true := by unfold encOk; rw [q1, q2]; rfl
      have hn := num_bd q2
      have hle : ∀ e ∈ es, entryOk e = true := ok_entries q1
      have HL := hide hle; have HOK := hide hok
      have hl6 : n ≤ 6 := by have := (encB_len hok).2.2; omega
      clear hle hok
      go_enter Tryd.func11, Tryd.ntmps11
      go_wp2_with fail
      refine (spec_ErrorsOk_is a n c es true q1 _ HA.out hs).mono ?_
      rintro e w1 ⟨rfl, h1⟩
      go_wp2_with fail
      refine (btw_is 36 number 1 1000000000 true _ q2 (spec_l01In _ _ _ _)).mono ?_
      rintro e w2 ⟨rfl, h2⟩
      go_wp2_with fail
      refine (spec_FormatInt number _ (by omega) (by omega)).mono ?_
      rintro e w3 ⟨rfl, h3⟩
      have hB3 := bthen (bthen h1 h2 h1.size) h3 (by have := h1.size; have := h2.size; omega)
      clear h1 h2 h3
      go_wp2_with fail
      go_loopw [5, 6] (fun s i wr => ∃ (k : Nat) (p : List UInt8), k ≤ n ∧ i = .int .i64 k ∧ s = .string (strOf p) ∧ Hid (p = pre number es k) ∧ Below w.heap.size w wr) (fun _ i _ => n - (intOf i).toNat)
      case atStart => exact ⟨0, decI number, Nat.zero_le _, rfl, rfl, hide (by simp [pre, ents]), hB3⟩
      case round =>
        obtain ⟨k, p, hk, rfl, rfl, HP, hB⟩ := hrel
        have hp7 : (strOf p).size ≤ 76 := by rw [strOf_size, HP.out]; exact pre_len HOK.out k
        by_cases hlt : k < n
        · obtain ⟨e, b1, o1, he, rfl, hlb, hcell⟩ := HA.out.get enF_len (by omega) hlt
          have e0 : w.cell? ⟨b1, o1 + k * 3, none⟩ = some (.int .i64 e.line) := hcell 0 _ rfl
          have e1 : w.cell? ⟨b1, o1 + k * 3 + 1, none⟩ = some (.int .i64 e.code) := hcell 1 _ rfl
          have e2 : w.cell? ⟨b1, o1 + k * 3 + 2, none⟩ = some (.int .i64 e.times) := hcell 2 _ rfl
          obtain ⟨d1, d2, d3⟩ := entry_bd (HL.out e (List.mem_of_getElem? he))
          obtain ⟨p6, hp6⟩ : ∃ z, pre number es (k + 1) = z := ⟨_, rfl⟩
          have hl6 : p6.length ≤ 76 := by rw [← hp6]; exact pre_len HOK.out (k + 1)
          have h6 : p ++ 32 :: ent e = p6 := by rw [HP.out, ← hp6, pre_next he]
          obtain ⟨p1, hp1⟩ : ∃ z, p ++ [32] = z := ⟨_, rfl⟩
          obtain ⟨p2, hp2⟩ : ∃ z, p1 ++ decI e.line = z := ⟨_, rfl⟩
          obtain ⟨p3, hp3⟩ : ∃ z, p2 ++ [58] = z := ⟨_, rfl⟩
          obtain ⟨p4, hp4⟩ : ∃ z, p3 ++ decI e.code = z := ⟨_, rfl⟩
          obtain ⟨p5, hp5⟩ : ∃ z, p4 ++ [58] = z := ⟨_, rfl⟩
          have hp66 : p5 ++ decI e.times = p6 := by rw [← h6, ← hp5, ← hp4, ← hp3, ← hp2, ← hp1]; simp [ent]
          have L6 := congrArg List.length hp66; have L5 := congrArg List.length hp5; have L4 := congrArg List.length hp4; have L3 := congrArg List.length hp3; have L2 := congrArg List.length hp2; have L1 := congrArg List.length hp1
          rw [List.length_append] at L1 L2 L3 L4 L5 L6
          have a1 : ∀ w : World, (Op.stringOp .add (strOf p) { data := #[32] }).run Tryd.prog w = .ok (.string (strOf p1)) w := add_run (y := [32]) hp1 (by omega)
          have a2 := add_run hp2 (by omega)
          have a3 : ∀ w : World, (Op.stringOp .add (strOf p2) { data := #[58] }).run Tryd.prog w = .ok (.string (strOf p3)) w := add_run (y := [58]) hp3 (by omega)
          have a4 := add_run hp4 (by omega)
          have a5 : ∀ w : World, (Op.stringOp .add (strOf p4) { data := #[58] }).run Tryd.prog w = .ok (.string (strOf p5)) w := add_run (y := [58]) hp5 (by omega)
          have a6 := add_run hp66 (by omega)
          have HN := hide hp6
          clear hp6 h6 hp1 hp2 hp3 hp4 hp5 hp66 L1 L2 L3 L4 L5 L6 hcell he hp7
          have hz1 : (0 : Int) ≤ (k : Int) := by omega
          have hz2 : (k : Int) < (n : Int) := by omega
          have hzw := hB.size
          go_upto_region 7 with fail
          go_region_held3 (fun u => u.cell? ⟨b1, o1 + k * 3, none⟩ = some (.int .i64 e.line) ∧ u.cell? ⟨b1, o1 + k * 3 + 1, none⟩ = some (.int .i64 e.code) ∧ u.cell? ⟨b1, o1 + k * 3 + 2, none⟩ = some (.int .i64 e.times) ∧ Below w.heap.size w u) (first | (refine keep_en hlb e0 e1 e2 ?_; (try go_split_ands); (repeat' (first | (with_reducible assumption) | (with_reducible refine Below.alloc ?_ ?_ _) | (with_reducible refine Below.drew ?_) | (with_reducible refine Below.setCell ?_ ?_ _) | (with_reducible exact Below.refl _ _) | (with_reducible exact Nat.le_refl _) | omega | (simp only [World.size_alloc, World.size_setCell, World.size_drew] <;> omega))); done)) (first | (go_at_call 37; refine (spec_FormatInt _ _ (by omega) (by omega)).mono ?_; rintro ex y ⟨rfl, hy⟩; have hWy : Below w.heap.size w y := bthenS (by (try go_split_ands); (repeat' (first | (with_reducible assumption) | (with_reducible refine Below.alloc ?_ ?_ _) | (with_reducible refine Below.drew ?_) | (with_reducible refine Below.setCell ?_ ?_ _) | (with_reducible exact Below.refl _ _) | (with_reducible exact Nat.le_refl _) | omega | (simp only [World.size_alloc, World.size_setCell, World.size_drew] <;> omega))); done) hy))
          go_wp2_with fail
          go_roundw
          case rel => exact ⟨k + 1, p6, by omega, by go_num, rfl, hide HN.out.symm, hWy⟩
          case measure => simp [intOf]; omega
        · have HP7 : Hid (p ++ [32] = bodyB number es) := hide (by rw [HP.out]; exact pre_all (by omega))
          obtain ⟨p1, hp1⟩ : ∃ z, p ++ [32] = z := ⟨_, rfl⟩
          have hb77 : p1.length ≤ 77 := by rw [← hp1, HP7.out]; exact (encB_len HOK.out).2.1
          obtain ⟨r, hr⟩ : ∃ r, sumB p1 % 9973 = r := ⟨_, rfl⟩
          have hr9 : r < 9973 := by omega
          obtain ⟨p2, hp2⟩ : ∃ z, p1 ++ decI (r : Int) = z := ⟨_, rfl⟩
          have hp3 : p2 ++ [59] = t := by
            rw [← HT.out, ← hp2, ← hr, ← hp1, HP7.out]
            unfold enc; rw [if_pos HOK.out]; unfold encB; rw [List.append_assoc]
          have l3 := dec_len r 3 (by omega)
          have l2 : (decI (r : Int)).length ≤ 4 := by unfold decI; simpa using l3
          have L3 := congrArg List.length hp3; have L2 := congrArg List.length hp2
          rw [List.length_append] at L2 L3
          simp only [List.length_cons, List.length_nil] at L3
          have a1 : ∀ w : World, (Op.stringOp .add (strOf p) { data := #[32] }).run Tryd.prog w = .ok (.string (strOf p1)) w := add_run (y := [32]) hp1 (by omega)
          have a2 := add_run hp2 (by omega)
          have a3 : ∀ w : World, (Op.stringOp .add (strOf p2) { data := #[59] }).run Tryd.prog w = .ok (.string (strOf t)) w := add_run (y := [59]) hp3 (by omega)
          have HR := hide hr
          have hzw := hB.size
          have hp1s : (strOf p1).size ≤ 1000000 := by rw [strOf_size]; omega
          clear hr hp1 hp2 hp3 L2 L3
          go_wp2_with fail
          refine (spec_l26Sum (strOf p1) r HR.out _ hp1s).mono ?_
          rintro e w4 ⟨rfl, rfl⟩
          go_wp2_with fail
          refine (spec_FormatInt r _ (by omega) (by omega)).mono ?_
          rintro e w5 ⟨rfl, h5⟩
          go_wp2_with fail
          go_ret
          exact ⟨rfl, bthenS hB h5⟩
theorem keep_en0 {w v : World} {e : En} {b : Nat} (k0 : w.heap[b]? = some (.cells #[.int .i64 e.line, .int .i64 e.code, .int .i64 e.times] 58 (0, 0))) (hb : Below w.heap.size w v) :
    v.cell? ⟨b, 0, none⟩ = some (.int .i64 e.line) ∧ v.cell? ⟨b, 1, none⟩ = some (.int .i64 e.code) ∧ v.cell? ⟨b, 2, none⟩ = some (.int .i64 e.times) ∧ Below w.heap.size w v :=
  ⟨((bcell hb).1 b _ (lt_blk k0)).trans (cell_blk k0 0), ((bcell hb).1 b _ (lt_blk k0)).trans (cell_blk k0 1), ((bcell hb).1 b _ (lt_blk k0)).trans (cell_blk k0 2), hb⟩
set_option maxRecDepth 100000 in
set_option maxHeartbeats 4000000 in
theorem impl_EncodeErrors (number : Int) (a : Option Addr) (n c : Nat) (es : List En) (t : List UInt8) (w : World) (ha : IsStructs enF 3 w a n c es) (hs : n ≤ 1048576) (ht : enc number es = t) (hG : Good w) :
    Calls Tryd.prog 13 #[.int .i64 number, .slice a n c] w fun e w' => e = .returned (.string (strOf t)) ∧ Below w.heap.size w w' := by
  have HA := hide ha; have HT := hide ht; have HG := hide hG
  have hc := ha.2.1
  have hln := ha.1
  clear ha ht hG
  cases q1 : errorsOkB es
  · have he : t = [] := by rw [← HT.out, enc_no (by unfold encOk; rw [q1]; rfl)]
    subst he
    go_enter Tryd.func13, Tryd.ntmps13
    go_wp2_with fail
    refine (impl_ErrorsOk_is a n c es false q1 _ HA.out hs).mono ?_
    rintro e w1 ⟨rfl, h1⟩
    go_wp2_with fail
    go_ret
    exact ⟨rfl, h1⟩
  · cases q2 : numOk number
    · have he : t = [] := by rw [← HT.out, enc_no (by unfold encOk; rw [q2]; simp)]
      subst he
      go_enter Tryd.func13, Tryd.ntmps13
      go_wp2_with fail
      refine (impl_ErrorsOk_is a n c es true q1 _ HA.out hs).mono ?_
      rintro e w1 ⟨rfl, h1⟩
      go_wp2_with fail
      refine (btw_is 40 number 1 1000000000 false _ q2 (impl_between _ _ _ _)).mono ?_
      rintro e w2 ⟨rfl, h2⟩
      go_wp2_with fail
      go_ret
      exact ⟨rfl, bthen h1 h2 h1.size⟩
    · have hok : encOk number es = true := by unfold encOk; rw [q1, q2]; rfl
      have hn := num_bd q2
      have hle : ∀ e ∈ es, entryOk e = true := ok_entries q1
      have HL := hide hle; have HOK := hide hok
      have hl6 : n ≤ 6 := by have := (encB_len hok).2.2; omega
      clear hle hok
      go_enter Tryd.func13, Tryd.ntmps13
      go_wp2_with fail
      refine (impl_ErrorsOk_is a n c es true q1 _ HA.out hs).mono ?_
      rintro e w1 ⟨rfl, h1⟩
      go_wp2_with fail
      refine (btw_is 40 number 1 1000000000 true _ q2 (impl_between _ _ _ _)).mono ?_
      rintro e w2 ⟨rfl, h2⟩
      go_wp2_with fail
      refine (impl_FormatInt number _ (by omega) (by omega) (HG.out.below (bthenS h1 h2))).mono ?_
      rintro e w3 ⟨rfl, h3⟩
      have hB3 := bthenS (bthenS h1 h2) h3
      clear h1 h2 h3
      go_wp2_with fail
      go_loopw [5, 22] (fun s i wr => ∃ (k : Nat) (p : List UInt8), k ≤ n ∧ i = .int .i64 k ∧ s = .string (strOf p) ∧ Hid (p = pre number es k) ∧ Below w.heap.size w wr) (fun _ i _ => n - (intOf i).toNat)
      case atStart => exact ⟨0, decI number, Nat.zero_le _, rfl, rfl, hide (by simp [pre, ents]), hB3⟩
      case round =>
        obtain ⟨k, p, hk, rfl, rfl, HP, hB⟩ := hrel
        have hp7 : (strOf p).size ≤ 76 := by rw [strOf_size, HP.out]; exact pre_len HOK.out k
        have hzw := hB.size
        by_cases hlt : k < n
        · obtain ⟨e, b1, o1, he, rfl, hlb, hcell⟩ := HA.out.get enF_len (by omega) hlt
          have e0 : wr.cell? ⟨b1, o1 + k * 3, none⟩ = some (.int .i64 e.line) := ((bcell hB).1 b1 _ hlb).trans (hcell 0 _ rfl)
          have e1 : wr.cell? ⟨b1, o1 + k * 3 + 1, none⟩ = some (.int .i64 e.code) := ((bcell hB).1 b1 _ hlb).trans (hcell 1 _ rfl)
          have e2 : wr.cell? ⟨b1, o1 + k * 3 + 2, none⟩ = some (.int .i64 e.times) := ((bcell hB).1 b1 _ hlb).trans (hcell 2 _ rfl)
          obtain ⟨d1, d2, d3⟩ := entry_bd (HL.out e (List.mem_of_getElem? he))
          obtain ⟨p6, hp6⟩ : ∃ z, pre number es (k + 1) = z := ⟨_, rfl⟩
          have hl6 : p6.length ≤ 76 := by rw [← hp6]; exact pre_len HOK.out (k + 1)
          have h6 : p ++ 32 :: ent e = p6 := by rw [HP.out, ← hp6, pre_next he]
          obtain ⟨p1, hp1⟩ : ∃ z, [32] ++ decI e.line = z := ⟨_, rfl⟩
          obtain ⟨p2, hp2⟩ : ∃ z, p1 ++ [58] = z := ⟨_, rfl⟩
          obtain ⟨p3, hp3⟩ : ∃ z, p2 ++ decI e.code = z := ⟨_, rfl⟩
          obtain ⟨p4, hp4⟩ : ∃ z, p3 ++ [58] = z := ⟨_, rfl⟩
          obtain ⟨p5, hp5⟩ : ∃ z, p4 ++ decI e.times = z := ⟨_, rfl⟩
          have hp66 : p ++ p5 = p6 := by rw [← h6, ← hp5, ← hp4, ← hp3, ← hp2, ← hp1]; simp [ent]
          have L6 := congrArg List.length hp66; have L5 := congrArg List.length hp5; have L4 := congrArg List.length hp4; have L3 := congrArg List.length hp3; have L2 := congrArg List.length hp2; have L1 := congrArg List.length hp1
          rw [List.length_append] at L1 L2 L3 L4 L5 L6
          have a1 : ∀ w : World, (Op.stringOp .add { data := #[32] } (strOf (decI e.line))).run Tryd.prog w = .ok (.string (strOf p1)) w := add_run (x := [32]) hp1 (by omega)
          have a2 : ∀ w : World, (Op.stringOp .add (strOf p1) { data := #[58] }).run Tryd.prog w = .ok (.string (strOf p2)) w := add_run (y := [58]) hp2 (by omega)
          have a3 := add_run hp3 (by omega)
          have a4 : ∀ w : World, (Op.stringOp .add (strOf p3) { data := #[58] }).run Tryd.prog w = .ok (.string (strOf p4)) w := add_run (y := [58]) hp4 (by omega)
          have a5 := add_run hp5 (by omega)
          have a6 := add_run hp66 (by omega)
          have HN := hide hp6
          clear hp6 h6 hp1 hp2 hp3 hp4 hp5 hp66 L1 L2 L3 L4 L5 L6 hcell he hp7
          have hz1 : (0 : Int) ≤ (k : Int) := by omega
          have hz2 : (k : Int) < (n : Int) := by omega
          go_upto_region 7 with fail
          have kb : (wr.alloc (.cells #[.int .i64 e.line, .int .i64 e.code, .int .i64 e.times] 58)).heap[wr.heap.size]? = some (.cells #[.int .i64 e.line, .int .i64 e.code, .int .i64 e.times] 58 (0, 0)) := alloc_at _ _ _ rfl
          have hBW : Below w.heap.size w (wr.alloc (.cells #[.int .i64 e.line, .int .i64 e.code, .int .i64 e.times] 58)) := Below.alloc hB hzw _
          generalize (wr.alloc (.cells #[.int .i64 e.line, .int .i64 e.code, .int .i64 e.times] 58)) = W7 at *
          have HG7 := hide (HG.out.below hBW)
          clear e0 e1 e2
          go_region_held3 (fun u => u.cell? ⟨wr.heap.size, 0, none⟩ = some (.int .i64 e.line) ∧ u.cell? ⟨wr.heap.size, 1, none⟩ = some (.int .i64 e.code) ∧ u.cell? ⟨wr.heap.size, 2, none⟩ = some (.int .i64 e.times) ∧ Below W7.heap.size W7 u) (first | (refine keep_en0 kb ?_; (try go_split_ands); (repeat' (first | (with_reducible assumption) | (with_reducible refine Below.alloc ?_ ?_ _) | (with_reducible refine Below.drew ?_) | (with_reducible refine Below.setCell ?_ ?_ _) | (with_reducible exact Below.refl _ _) | (with_reducible exact Nat.le_refl _) | omega | (simp only [World.size_alloc, World.size_setCell, World.size_drew] <;> omega))); done)) (first | (go_at_call 41; refine (impl_FormatInt _ _ (by omega) (by omega) (HG7.out.below (by (try go_split_ands); (repeat' (first | (with_reducible assumption) | (with_reducible refine Below.alloc ?_ ?_ _) | (with_reducible refine Below.drew ?_) | (with_reducible refine Below.setCell ?_ ?_ _) | (with_reducible exact Below.refl _ _) | (with_reducible exact Nat.le_refl _) | omega | (simp only [World.size_alloc, World.size_setCell, World.size_drew] <;> omega))); done))).mono ?_; rintro ex y ⟨rfl, hy⟩; have hWy : Below W7.heap.size W7 y := bthenS (by (try go_split_ands); (repeat' (first | (with_reducible assumption) | (with_reducible refine Below.alloc ?_ ?_ _) | (with_reducible refine Below.drew ?_) | (with_reducible refine Below.setCell ?_ ?_ _) | (with_reducible exact Below.refl _ _) | (with_reducible exact Nat.le_refl _) | omega | (simp only [World.size_alloc, World.size_setCell, World.size_drew] <;> omega))); done) hy))
          go_wp2_with fail
          go_roundw
          case rel => exact ⟨k + 1, p6, by omega, by go_num, rfl, hide HN.out.symm, bthenS hBW hWy⟩
          case measure => simp [intOf]; omega
        · have HP7 : Hid (p ++ [32] = bodyB number es) := hide (by rw [HP.out]; exact pre_all (by omega))
          obtain ⟨p1, hp1⟩ : ∃ z, p ++ [32] = z := ⟨_, rfl⟩
          have hb77 : p1.length ≤ 77 := by rw [← hp1, HP7.out]; exact (encB_len HOK.out).2.1
          obtain ⟨r, hr⟩ : ∃ r, sumB p1 % 9973 = r := ⟨_, rfl⟩
          have hr9 : r < 9973 := by omega
          obtain ⟨p2, hp2⟩ : ∃ z, p1 ++ decI (r : Int) = z := ⟨_, rfl⟩
          have hp3 : p2 ++ [59] = t := by
            rw [← HT.out, ← hp2, ← hr, ← hp1, HP7.out]
            unfold enc; rw [if_pos HOK.out]; unfold encB; rw [List.append_assoc]
          have l3 := dec_len r 3 (by omega)
          have l2 : (decI (r : Int)).length ≤ 4 := by unfold decI; simpa using l3
          have L3 := congrArg List.length hp3; have L2 := congrArg List.length hp2
          rw [List.length_append] at L2 L3
          simp only [List.length_cons, List.length_nil] at L3
          have a1 : ∀ w : World, (Op.stringOp .add (strOf p) { data := #[32] }).run Tryd.prog w = .ok (.string (strOf p1)) w := add_run (y := [32]) hp1 (by omega)
          have a2 := add_run hp2 (by omega)
          have a3 : ∀ w : World, (Op.stringOp .add (strOf p2) { data := #[59] }).run Tryd.prog w = .ok (.string (strOf t)) w := add_run (y := [59]) hp3 (by omega)
          have HR := hide hr
          have hp1s : (strOf p1).size ≤ 77 := by rw [strOf_size]; omega
          have HGr := hide (HG.out.below hB)
          clear hr hp1 hp2 hp3 L2 L3
          go_wp2_with fail
          go_loop [8, 9] (fun s i => ∃ k m : Nat, k ≤ (strOf p1).size ∧ i = .int .i64 k ∧ s = .int .i64 m ∧ m ≤ 255 * k ∧ Hid (m = sumB (p1.take k))) (fun _ i => (strOf p1).size - (intOf i).toNat)
          case atStart => exact ⟨0, 0, Nat.zero_le _, rfl, rfl, by decide, hide (by simp [sumB])⟩
          case round =>
            obtain ⟨k2, m, hk2, rfl, rfl, hm, HM⟩ := hrel
            by_cases hlt2 : k2 < (strOf p1).size
            · obtain ⟨c1, hc1⟩ : ∃ c : UInt8, (strOf p1)[k2] = c := ⟨_, rfl⟩
              have hcl := c1.toNat_lt
              have HN : Hid (m + c1.toNat = sumB (p1.take (k2 + 1))) := hide (by
                have := take_byte (strOf p1) k2 hlt2
                rw [strOf_data] at this
                rw [this, sumB_snoc, hc1, ← HM.out])
              clear HM
              go_wp2_with fail
              go_round
              case rel => exact ⟨k2 + 1, m + c1.toNat, by omega, by go_num, by go_num, by omega, HN⟩
              case measure => simp [intOf]; omega
            · have HF : Hid (m = sumB p1) := hide (by rw [HM.out, List.take_of_length_le (by rw [strOf_size] at hlt2; omega)])
              clear HM
              have hmod : (m : Int).tmod 9973 = (r : Int) := by rw [Int.tmod_eq_emod_of_nonneg (by omega)]; have := HF.out; have := HR.out; omega
              go_wp2_with fail
              refine (impl_FormatInt r _ (by omega) (by omega) HGr.out).mono ?_
              rintro e w5 ⟨rfl, h5⟩
              go_wp2_with fail
              go_ret
              exact ⟨rfl, bthenS hB h5⟩
end Go.Proofs.YtheifhjnbpbkhaaDoor
