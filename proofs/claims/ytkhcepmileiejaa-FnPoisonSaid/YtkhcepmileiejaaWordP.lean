/- What a written word is after one or two flips, and after reading it. -/
import Derived.Test.YtkhcepmileiejaaFlip
import Derived.Test.YtkhcepmileiejaaLawA
set_option linter.unusedSimpArgs false
set_option linter.unusedVariables false
namespace Go.Proofs.Ytkhcepmileiejaa
open Go.RowKit Go.ChangeShapes Go.WideShapes Go.ChangeAt Go.Joins Go.Deep
open Go.ChangeMaps (open_string shut_string)
theorem sum_le11 : ∀ cs : List (List Int × Bool), (∀ c ∈ cs, symOkB c.1 11 = true) → (cs.map (fun c => c.1.length)).sum ≤ 11 * cs.length
  | [], _ => by simp
  | c :: cs, h => by
    have h1 := sum_le11 cs (fun d hd => h d (List.mem_cons_of_mem _ hd))
    have h2 := (symOk_of (n := 11) (h c (List.mem_cons_self ..))).2.2.2
    simp only [List.map_cons, List.sum_cons, List.length_cons]; omega
theorem tot_ok {g : Ge} {C : Con} (h : arOk g C = true) : conTot C ≤ 1048576 := by
  obtain ⟨h1, h2, h3, h4, h5, _⟩ := arOk_of h
  obtain ⟨k, hk, hk0, hk1⟩ := rows_wrap g
  rw [hk] at h3 h4
  have h6 := sum_le11 C.cs h5
  have := lineCnt_bd g
  unfold conTot; omega
theorem set_getD {C : Con} {i : Nat} {c : List Int × Bool} (h : i < C.cs.length) : (setC C i c).cs.getD i ([], false) = c := by
  unfold setC
  simp only [List.getD_eq_getElem?_getD, List.getElem?_set_self h, Option.getD_some]
theorem set_len {C : Con} {i : Nat} {c : List Int × Bool} : (setC C i c).cs.length = C.cs.length := by simp [setC]
theorem ok_set {g : Ge} {C : Con} {i : Nat} {c : List Int × Bool} (h : arOk g C = true) (hc : symOkB c.1 11 = true) : arOk g (setC C i c) = true := arOk_cell (cs := C.cs) (ag := C.ag) (ht := C.ht) h hc
theorem idx_lt {g : Ge} {C : Con} {x : Ad} (h : arOk g C = true) (hx : adOk g x = true) : (adIdx g x).toNat < C.cs.length := by
  have := adIdx_bd hx; have := (arOk_of h).2.1; omega
theorem drop_enc {d : List Nat} (h : Sym d) (hl : d.length = 8) : (encS d).drop 3 = d := by
  obtain ⟨x, y, z, _, _, _, h1, _, _⟩ := enc_parts h hl
  rw [h1]; rfl
theorem getC_turn {wn j v : Nat} (hw : wn < 4294967296) (hj : j < 11) (hv : v < 16) : getC (ints (turn (encS (symsOf wn)) j v), false) = ((ints (encS (symsOf wn)), false), (wn : Int), if v = 0 then 0 else 1) := by
  have hs := syms_sym wn
  have hc := corr_flip hs.1 hs.2 hj hv
  have h1 : (corrW (turn (encS (symsOf wn)) j v)).2.1 = if v = 0 then 0 else 1 := by rw [hc]; split <;> rfl
  have h2 : (corrW (turn (encS (symsOf wn)) j v)).1 = encS (symsOf wn) := by rw [hc]; split <;> rfl
  rw [getC_read rfl (by rw [nats_ints, h1]; split <;> decide), nats_ints, h1, h2, drop_enc hs.1 hs.2, word_syms hw]
theorem ok_enc (wn : Nat) : symOkB (ints (encS (symsOf wn))) 11 = true := by
  have hs := syms_sym wn
  have he := enc_sym hs.1 hs.2
  exact symOk_ints he.1 he.2
theorem ok_turn {ws : List Nat} (h : Sym ws) (hl : ws.length = 11) {v : Nat} (hv : v < 16) (j : Nat) : symOkB (ints (turn ws j v)) 11 = true := symOk_ints (turn_sym h hv) (by rw [turn_len]; exact hl)
theorem get_set {g : Ge} {C : Con} {x : Ad} {c : List Int × Bool} (h : arOk g C = true) (hc : symOkB c.1 11 = true) (hx : adOk g x = true) : getA g (setC C (adIdx g x).toNat c) x = (setC (setC C (adIdx g x).toNat c) (adIdx g x).toNat (getC c).1, (getC c).2.1, (getC c).2.2) := by
  unfold getA
  rw [if_pos ⟨ok_set h hc, hx⟩]
  unfold rdAt
  rw [set_getD (idx_lt h hx)]
theorem put_ok {g : Ge} {C : Con} {x : Ad} {wn : Nat} (h : arOk g C = true) (hx : adOk g x = true) (hw : wn < 4294967296) : putA g C x (wn : Int) = setC C (adIdx g x).toNat (ints (encS (symsOf wn)), false) := by
  have hb : btw (wn : Int) 0 4294967295 = true := btw_mk (by omega) (by omega)
  unfold putA
  rw [if_pos (by rw [h, hx, hb]; rfl), Int.toNat_natCast]; rfl
theorem flip_set {C : Con} {i j v : Nat} {ws : List Nat} {p : Bool} (h : i < C.cs.length) : flipC (setC C i (ints ws, p)) i j v = setC (setC C i (ints ws, p)) i (ints (turn ws j v), p) := by
  unfold flipC
  rw [set_getD h, nats_ints]
theorem words_plain {g : Ge} {C : Con} {x : Ad} {wn j v : Nat} (hok : arOk g C = true) (hx : adOk g x = true) (hw : wn < 4294967296) (hj : j < 11) (hv : v < 16) : ∃ C1 C2 C3 C4 : Con,
    putA g C x (wn : Int) = C1 ∧ arOk g C1 = true ∧ flipC C1 (adIdx g x).toNat j v = C2 ∧ arOk g C2 = true ∧ getA g C2 x = (C3, (wn : Int), if v = 0 then 0 else 1) ∧ arOk g C3 = true ∧ getA g C3 x = (C4, (wn : Int), 0) := by
  have hs := syms_sym wn
  have he := enc_sym hs.1 hs.2
  have hp := put_ok hok hx hw
  have hg := getC_turn hw hj hv
  have h0 := getC_turn (v := 0) hw hj (by omega)
  rw [turn_zero, if_pos rfl] at h0
  generalize encS (symsOf wn) = E at he hp hg h0
  have k0 : symOkB (ints E) 11 = true := symOk_ints he.1 he.2
  have k1 := ok_turn he.1 he.2 hv j
  have h1 := ok_set (i := (adIdx g x).toNat) (c := (ints E, false)) hok k0
  have h2 := ok_set (i := (adIdx g x).toNat) (c := (ints (turn E j v), false)) h1 k1
  have h3 := ok_set (i := (adIdx g x).toNat) (c := (ints E, false)) h2 k0
  have q1 := get_set (c := (ints (turn E j v), false)) h1 k1 hx
  have q2 := get_set (c := (ints E, false)) h2 k0 hx
  rw [hg] at q1
  rw [h0] at q2
  exact ⟨_, _, _, _, hp, h1, flip_set (idx_lt hok hx), h2, q1, h3, q2⟩
theorem poison_plain {g : Ge} {C : Con} {x : Ad} {wn un j v y : Nat} (hok : arOk g C = true) (hx : adOk g x = true) (hw : wn < 4294967296) (hu : un < 4294967296) (hj : j < 11) (hv : v < 16) (hv0 : v ≠ 0) (hy : y < 16) (hy0 : y ≠ 0) : ∃ C1 C2 C3 C4 C5 C6 C7 C8 : Con,
    putA g C x (wn : Int) = C1 ∧ arOk g C1 = true ∧ flipC C1 (adIdx g x).toNat j v = C2 ∧ arOk g C2 = true ∧ flipC C2 (adIdx g x).toNat ((j + 1) % 11) y = C3 ∧ arOk g C3 = true ∧ getA g C3 x = (C4, 0, 2) ∧ arOk g C4 = true ∧ getA g C4 x = (C5, 0, 2) ∧ arOk g C5 = true ∧
    putA g C5 x (un : Int) = C6 ∧ arOk g C6 = true ∧ getA g C6 x = (C7, (un : Int), 0) ∧ arOk g C7 = true ∧ scrubL g C4 (adIdx g x) = (C8, 2) := by
  have hs := syms_sym wn
  have he := enc_sym hs.1 hs.2
  have hp1 := put_ok hok hx hw
  have hct := corr_two hs.1 hs.2 hj hv hy hv0 hy0
  have hp2 := fun (C' : Con) (h : arOk g C' = true) => put_ok (x := x) h hx hu
  have h0 := getC_turn (v := 0) hu hj (by omega)
  have hs' := syms_sym un
  have he' := enc_sym hs'.1 hs'.2
  rw [turn_zero, if_pos rfl] at h0
  generalize encS (symsOf wn) = E at he hp1 hct
  generalize encS (symsOf un) = F at he' hp2 h0
  have t1 := turn_sym (p := j) he.1 hv
  have l1 : (turn E j v).length = 11 := by rw [turn_len]; exact he.2
  have k0 : symOkB (ints E) 11 = true := symOk_ints he.1 he.2
  have kF : symOkB (ints F) 11 = true := symOk_ints he'.1 he'.2
  have k1 := ok_turn he.1 he.2 hv j
  have k2 := ok_turn t1 l1 hy ((j + 1) % 11)
  have h1 := ok_set (i := (adIdx g x).toNat) (c := (ints E, false)) hok k0
  have h2 := ok_set (i := (adIdx g x).toNat) (c := (ints (turn E j v), false)) h1 k1
  have f2 := flip_set (p := false) (ws := turn E j v) (j := (j + 1) % 11) (v := y) (idx_lt h1 hx)
  generalize hT : turn (turn E j v) ((j + 1) % 11) y = T at k2 hct f2
  have h3 := ok_set (i := (adIdx g x).toNat) (c := (ints T, false)) h2 k2
  have h4 := ok_set (i := (adIdx g x).toNat) (c := (ints T, true)) h3 k2
  have h5 := ok_set (i := (adIdx g x).toNat) (c := (ints T, true)) h4 k2
  have h6 := ok_set (i := (adIdx g x).toNat) (c := (ints F, false)) h5 kF
  have h7 := ok_set (i := (adIdx g x).toNat) (c := (ints F, false)) h6 kF
  have hl := getC_lost (c := (ints T, false)) rfl (by rw [nats_ints, hct])
  have hp := getC_poison (c := (ints T, true)) rfl
  have q1 := get_set (c := (ints T, false)) h2 k2 hx
  have q2 := get_set (c := (ints T, true)) h3 k2 hx
  have q3 := get_set (c := (ints F, false)) h5 kF hx
  rw [hl] at q1
  rw [hp] at q2
  rw [h0] at q3
  refine ⟨_, _, _, _, _, _, _, setC (setC (setC (setC (setC C (adIdx g x).toNat (ints E, false)) (adIdx g x).toNat (ints (turn E j v), false)) (adIdx g x).toNat (ints T, false)) (adIdx g x).toNat (ints T, true)) (adIdx g x).toNat (ints T, true), hp1, h1, flip_set (idx_lt hok hx), h2, f2, h3, q1, h4, q2, h5, hp2 _ h5, h6, q3, h7, ?_⟩
  unfold scrubL
  have hb := adIdx_bd hx
  rw [if_pos ⟨h4, btw_mk (by omega) (by omega)⟩]
  unfold rdAt
  rw [set_getD (idx_lt h3 hx), hp]
end Go.Proofs.Ytkhcepmileiejaa
