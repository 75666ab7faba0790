/- The code of symbols: the walks of its correction, of the program and of the reference. -/
import Derived.Test.YtkhcepmileiejaaWordW
import Derived.WalkSpells
set_option linter.unusedSimpArgs false
set_option linter.unusedVariables false
namespace Go.Proofs.Ytkhcepmileiejaa
open Go.RowKit Go.ChangeShapes Go.WideShapes Go.ChangeAt Go.Joins Go.Deep
open Go.ChangeMaps (open_string shut_string)
theorem map_ones (zs : List Int) : ∀ u ∈ zs.map (Value.int .i64), u.oneCell' = true := by
  intro u hu
  obtain ⟨z, _, rfl⟩ := List.mem_map.1 hu
  rfl
/-- A part of a slice of numbers. -/
theorem RowIn.drop {w : World} {b o : Nat} {cells : List Value} (h : RowIn w (some ⟨b, o, none⟩) cells) (k : Nat) : RowIn w (some ⟨b, o + k, none⟩) (cells.drop k) := by
  intro i v hv
  rw [List.getElem?_drop] at hv
  obtain ⟨b', o', e, hc⟩ := h _ v hv
  injection e with e
  injection e with e1 e2
  subst e1 e2
  exact ⟨b, o + k, rfl, by rw [Nat.add_assoc]; exact hc⟩
set_option maxRecDepth 100000 in
set_option maxHeartbeats 1000000 in
theorem impl_DataOf (a : Option Addr) (c : Nat) (ws : List Nat) (w : World) (hS : Sym ws) (hl : ws.length = 11) (ha : IsInts .i64 w a 11 c (ints ws)) :
    Calls Try.prog 108 #[.slice a 11 c] w (Fresh w 3 1 8 ((ints (ws.drop 3)).map (.int .i64))) := by
  obtain ⟨i0_int, hi_int, hz0_int, hz1_int, hz2_int⟩ := info_parts info_int
  have HA := hide ha; have HS := hide hS; have HL := hide hl
  have hok := symOk_ints hS hl
  have hc := ha.2.1; have hm : c ≤ 9223372036854775807 := ha.2.2.1
  obtain ⟨z0, b1, o1, _, rfl, hlb, _⟩ := ha.2.2.2.2.get (k := 0) (by rw [ints_len, hl]; omega)
  have hB0 : Below w.heap.size w (w.alloc (.cells #[] 3)) := (by repeat' (first | (with_reducible exact Below.refl _ _) | (with_reducible assumption) | (with_reducible refine bdrawn ?_ _) | (with_reducible refine Below.alloc ?_ ?_ _) | (with_reducible refine Below.drew ?_) | (with_reducible refine Below.setCell ?_ ?_ _) | go_size))
  have HA0 := hide ((HA.out.below hB0 (Nat.le_refl _)).2.2.2.2.drop 3)
  have HO0 := hide (World.ownsRow_made (base := w.heap.size) (e := 3) (size := 1) w #[] 0 (Nat.le_refl _) (by decide) rfl)
  clear ha hS hl
  go_enter Try.func108, Try.ntmps108
  go_wp2_with fail
  refine (impl_SymbolsOk _ _ _ _ _ true _ hok HA.out).mono ?_
  rintro e w1 ⟨rfl, rfl⟩
  go_wp2_with (at_builtin; refine wpList_append_any rfl _ _ 25 rfl w.heap.size 3 i0_int (.int .i64 0) 1 8 Try.underlying25 hi_int hz0_int hz1_int hz2_int rfl (by decide) _ _ _ rfl (HO0.out) _ _ _ _ rfl (by rw [List.length_drop, List.length_map, ints_len, HL.out]) HA0.out (fun u hu => map_ones _ u (List.mem_of_mem_drop hu)) ?c3p ?c4p ?c5p ?_)
  case c3p => unfold maxLen; omega
  case c4p => omega
  case c5p => (first | go_size | (simp; omega))
  intro v' wp hownp hgp
  obtain ⟨ap, cp, rfl⟩ := own_shape hownp
  have hBp := below_grown hB0 (HO0.out) (by omega) (by go_size) hgp
  have hsp := hgp.size
  (try simp only [World.size_alloc] at hsp)
  have HGp := hide hgp; clear hgp
  (try simp only [List.nil_append, Nat.zero_add] at hownp)
  have HO := hide hownp
  clear hownp
  go_wp2_with fail
  go_ret
  refine ⟨_, _, rfl, ?_, hBp⟩
  have := HO.out
  rw [show (ints (ws.drop 3)).map (Value.int .i64) = ((ints ws).map (.int .i64)).drop 3 by simp [ints, List.map_drop]]
  exact this
set_option maxRecDepth 100000 in
set_option maxHeartbeats 1000000 in
theorem spec_DataOf (a : Option Addr) (c : Nat) (ws : List Nat) (w : World) (hS : Sym ws) (hl : ws.length = 11) (ha : IsInts .i64 w a 11 c (ints ws)) :
    Calls Try.prog 104 #[.slice a 11 c] w (Fresh w 3 1 8 ((ints (ws.drop 3)).map (.int .i64))) := by
  obtain ⟨i0_int, hi_int, hz0_int, hz1_int, hz2_int⟩ := info_parts info_int
  have HA := hide ha; have HS := hide hS; have HL := hide hl
  have hok := symOk_ints hS hl
  have hc := ha.2.1; have hm : c ≤ 9223372036854775807 := ha.2.2.1
  obtain ⟨z0, b1, o1, _, rfl, hlb, _⟩ := ha.2.2.2.2.get (k := 0) (by rw [ints_len, hl]; omega)
  have hB0 : Below w.heap.size w (w.alloc (.cells #[] 3)) := (by repeat' (first | (with_reducible exact Below.refl _ _) | (with_reducible assumption) | (with_reducible refine bdrawn ?_ _) | (with_reducible refine Below.alloc ?_ ?_ _) | (with_reducible refine Below.drew ?_) | (with_reducible refine Below.setCell ?_ ?_ _) | go_size))
  have HA0 := hide ((HA.out.below hB0 (Nat.le_refl _)).2.2.2.2.drop 3)
  have HO0 := hide (World.ownsRow_made (base := w.heap.size) (e := 3) (size := 1) w #[] 0 (Nat.le_refl _) (by decide) rfl)
  clear ha hS hl
  go_enter Try.func104, Try.ntmps104
  go_wp2_with fail
  refine (spec_SymbolsOk _ _ _ _ _ true _ hok HA.out).mono ?_
  rintro e w1 ⟨rfl, rfl⟩
  go_wp2_with (at_builtin; refine wpList_append_any rfl _ _ 25 rfl w.heap.size 3 i0_int (.int .i64 0) 1 8 Try.underlying25 hi_int hz0_int hz1_int hz2_int rfl (by decide) _ _ _ rfl (HO0.out) _ _ _ _ rfl (by rw [List.length_drop, List.length_map, ints_len, HL.out]) HA0.out (fun u hu => map_ones _ u (List.mem_of_mem_drop hu)) ?c3p ?c4p ?c5p ?_)
  case c3p => unfold maxLen; omega
  case c4p => omega
  case c5p => (first | go_size | (simp; omega))
  intro v' wp hownp hgp
  obtain ⟨ap, cp, rfl⟩ := own_shape hownp
  have hBp := below_grown hB0 (HO0.out) (by omega) (by go_size) hgp
  have hsp := hgp.size
  (try simp only [World.size_alloc] at hsp)
  have HGp := hide hgp; clear hgp
  (try simp only [List.nil_append, Nat.zero_add] at hownp)
  have HO := hide hownp
  clear hownp
  go_wp2_with fail
  go_ret
  refine ⟨_, _, rfl, ?_, hBp⟩
  have := HO.out
  rw [show (ints (ws.drop 3)).map (Value.int .i64) = ((ints ws).map (.int .i64)).drop 3 by simp [ints, List.map_drop]]
  exact this

/-- Three numbers that can be read. -/
def Is3 (w : World) (g : Nat) (f : Nat → Nat) : Prop := g < w.heap.size ∧ w.cell? ⟨g, 0, none⟩ = some (.int .i64 (f 0 : Nat)) ∧ w.cell? ⟨g, 1, none⟩ = some (.int .i64 (f 1 : Nat)) ∧ w.cell? ⟨g, 2, none⟩ = some (.int .i64 (f 2 : Nat))
theorem is3_of {w : World} {base : Nat} {a : Option Addr} {c : Nat} {f : Nat → Nat} (h : w.ownsRow base 3 1 (.slice a 3 c) 3 (row3 f)) : ∃ g, a = some ⟨g, 0, none⟩ ∧ base ≤ g ∧ Is3 w g f ∧ c ≤ 9223372036854775807 ∧ 3 ≤ c := by
  obtain ⟨g, h1, h2, h3, h4⟩ := own_some h (by omega)
  have := own_caps h
  exact ⟨g, h1, h2, ⟨h3, (h4 0 (by omega)).trans rfl, (h4 1 (by omega)).trans rfl, (h4 2 (by omega)).trans rfl⟩, this.2, this.1⟩
theorem Is3.below {w w' : World} {g : Nat} {f : Nat → Nat} (h : Is3 w g f) (hb : Below w.heap.size w w') : Is3 w' g f :=
  ⟨Nat.lt_of_lt_of_le h.1 hb.size, ((bcell hb).1 g 0 h.1).trans h.2.1, ((bcell hb).1 g 1 h.1).trans h.2.2.1, ((bcell hb).1 g 2 h.1).trans h.2.2.2⟩
def zero3 (ws : List Nat) : Bool := syn ws 0 == 0 && (syn ws 1 == 0 && syn ws 2 == 0)
theorem cast_zero {a : Nat} : (((a : Nat) : Int) == 0) = (a == 0) := by
  by_cases h : a = 0
  · subst h; rfl
  · have h1 : ((a : Int) == 0) = false := by simp; omega
    have h2 : (a == 0) = false := by simp; omega
    rw [h1, h2]
set_option maxRecDepth 100000 in
set_option maxHeartbeats 1000000 in
theorem impl_WordOk (a : Option Addr) (c : Nat) (ws : List Nat) (v : Bool) (w : World) (hv : zero3 ws = v) (hS : Sym ws) (hl : ws.length = 11) (ha : IsInts .i64 w a 11 c (ints ws)) :
    Calls Try.prog 105 #[.slice a 11 c] w fun e w' => e = .returned (.bool v) ∧ Below w.heap.size w w' := by
  have HV := hide hv
  clear hv
  go_enter Try.func105, Try.ntmps105
  go_wp2_with fail
  refine (impl_Syndromes _ _ ws _ hS hl ha).mono ?_
  rintro e w1 ⟨a1, c1, rfl, o1, h1⟩
  obtain ⟨g, rfl, hg, h3, hc1, hc2⟩ := is3_of o1
  obtain ⟨hgl, e0, e1, e2⟩ := h3
  have hne := fun w => run_neq_slice_nil_any (P := Try.prog) w 25 3 (some ⟨g, 0, none⟩) 3 c1 0 0 Try.underlying25
  clear ha o1
  cases q0 : (syn ws 0 == 0)
  · have p0 : (((syn ws 0 : Nat) : Int) == 0) = false := by rw [cast_zero, q0]
    go_wp2_with fail
    go_ret
    exact ⟨ret_bool (by rw [← HV.out]; unfold zero3; rw [q0]; rfl), h1⟩
  · have p0 : (((syn ws 0 : Nat) : Int) == 0) = true := by rw [cast_zero, q0]
    cases q1 : (syn ws 1 == 0)
    · have p1 : (((syn ws 1 : Nat) : Int) == 0) = false := by rw [cast_zero, q1]
      go_wp2_with fail
      go_ret
      exact ⟨ret_bool (by rw [← HV.out]; unfold zero3; rw [q0, q1]; rfl), h1⟩
    · have p1 : (((syn ws 1 : Nat) : Int) == 0) = true := by rw [cast_zero, q1]
      cases q2 : (syn ws 2 == 0)
      all_goals
        have p2 := (cast_zero (a := syn ws 2)).trans q2
        go_wp2_with fail
        go_ret
        exact ⟨ret_bool (by rw [← HV.out]; unfold zero3; rw [q0, q1, q2]; rfl), h1⟩
set_option maxHeartbeats 1000000 in
theorem spec_l12Zero (g c : Nat) (ws : List Nat) (v : Bool) (w : World) (hv : zero3 ws = v) (h3 : Is3 w g (fun j => syn ws j)) (hc : 3 ≤ c ∧ c ≤ 9223372036854775807) :
    Calls Try.prog 113 #[.slice (some ⟨g, 0, none⟩) 3 c] w fun e w' => e = .returned (.bool v) ∧ w = w' := by
  have HV := hide hv
  obtain ⟨hgl, e0, e1, e2⟩ := h3
  have hc1 := hc.1; have hc2 := hc.2
  clear hv hc
  cases q0 : (syn ws 0 == 0)
  · have p0 : (((syn ws 0 : Nat) : Int) == 0) = false := by rw [cast_zero, q0]
    go_enter Try.func113, Try.ntmps113
    go_wp2_with fail
    go_ret
    exact ⟨ret_bool (by rw [← HV.out]; unfold zero3; rw [q0]; rfl), rfl⟩
  · have p0 : (((syn ws 0 : Nat) : Int) == 0) = true := by rw [cast_zero, q0]
    cases q1 : (syn ws 1 == 0)
    · have p1 : (((syn ws 1 : Nat) : Int) == 0) = false := by rw [cast_zero, q1]
      go_enter Try.func113, Try.ntmps113
      go_wp2_with fail
      go_ret
      exact ⟨ret_bool (by rw [← HV.out]; unfold zero3; rw [q0, q1]; rfl), rfl⟩
    · have p1 : (((syn ws 1 : Nat) : Int) == 0) = true := by rw [cast_zero, q1]
      cases q2 : (syn ws 2 == 0)
      all_goals
        have p2 := (cast_zero (a := syn ws 2)).trans q2
        go_enter Try.func113, Try.ntmps113
        go_wp2_with fail
        go_ret
        exact ⟨ret_bool (by rw [← HV.out]; unfold zero3; rw [q0, q1, q2]; rfl), rfl⟩
end Go.Proofs.Ytkhcepmileiejaa
