/- The reference's order of slots. -/
import Derived.Test.YtahfbhfmhccgoaaServe2
set_option linter.unusedSimpArgs false
set_option linter.unusedVariables false
namespace Go.Proofs.Ytahfbhfmhccgoaa
open Go.RowKit Go.ChangeShapes Go.WideShapes Go.ChangeAt Go.Joins Go.Deep
open Go.ChangeMaps (open_string shut_string)
theorem own_set_offS {w : World} {base g o : Nat} {e : TypeId} {size n : Nat} {v : Value} {xs : List Value} (h : w.ownsRow base e size v n xs) (hg : ∀ q, v.ownBlock = some q → q ≠ g) (u : Value) : (w.setCell ⟨g, o, none⟩ u).ownsRow base e size v n xs :=
  h.kept (row := some g) (only_set (only_refl _ _) _) (by
    cases hv : v.ownBlock with
    | none => exact .inl rfl
    | some q => exact .inr (fun e => hg q hv (by injection e)))
def GotServe (w : World) (m : Nat) (xs : List Int) (e : Ending) (w' : World) : Prop :=
  ∃ a c, e = .returned (.slice a m c) ∧ w'.ownsRow w.heap.size 3 1 (.slice a m c) m (xs.map (.int .i64)) ∧ Below w.heap.size w w'
theorem spec_OwnerAt_is (a : Option Addr) (n c : Nat) (zs : List Int) (l t o : Int) (h : ownerAt zs l t = o) (w : World) (htb : t ≤ 9223372036854775807) (ha : IsInts .i64 w a n c zs) (hs : n ≤ 1048576) :
    Calls Try.prog 125 #[.agg #[.slice a n c, .int .i64 l], .int .i64 t] w fun e w' => e = .returned (.int .i64 o) ∧ Below w.heap.size w w' := by subst h; exact spec_OwnerAt a n c zs l t w htb ha hs
set_option maxRecDepth 100000 in
set_option maxHeartbeats 8000000 in
theorem spec_l23Serve (a1 : Option Addr) (n1 c1 : Nat) (zs : List Int) (l u : Int) (a : Option Addr) (n c : Nat) (rs : List Rq) (w : World) (hz : IsInts .i64 w a1 n1 c1 zs) (hs1 : n1 ≤ 1048576) (ha : IsStructs rqF 6 w a n c rs) (hok : servable zs l u n = true) :
    Calls Try.prog 86 #[.agg #[.slice a1 n1 c1, .int .i64 l], .int .i64 u, .slice a n c] w (GotServe w (nSlots u l) (runS rs zs l (nSlots u l)).2) := by
  obtain ⟨i0_int, hi_int, hz0_int, hz1_int, hz2_int⟩ := info_parts info_int
  obtain ⟨i0_b, hi_b, hz0_b, hz1_b, hz2_b⟩ := info_parts info_boolX
  have HZ := hide hz; have HA := hide ha
  obtain ⟨hok1, hu0, hu1, hn60, huq⟩ := servable_bd hok
  obtain ⟨_, hb1, hb2, hb3, hb4⟩ := slotsOkB_bd hok1
  have HL := hide ha.1
  have hc := ha.2.1; have hcm : c ≤ 9223372036854775807 := ha.2.2.1
  have hnl := nSlots_le (u := u) (l := l) hb3 hu0 huq
  have hN1 := hnl.1; have hN2 := hnl.2
  have HIFF := hide (fun j => nSlots_iff (u := u) (l := l) (by omega) j)
  generalize nSlots u l = N at *
  clear hz ha hok hok1 huq hnl hb1 hb2
  go_enter Try.func86, Try.ntmps86
  go_wp2_with (at_make; refine wpList_make_full _ rfl _ _ 26 rfl (w.heap.size + 2) 4 i0_b (.bool false) 1 Try.underlying26 hi_b hz0_b hz1_b _ _ _ _ n rfl rfl rfl rfl (by rw [hz2_b]; omega) (by unfold maxLen; omega) (by simp) ?_; intro w0 hown hg; have hb0 : Below w.heap.size w w0 := (((Below.refl _ _).alloc (Nat.le_refl _) _).alloc (by simp) _).grown hg (by simp; omega) (fun k h => by cases h))
  simp only [World.size_alloc] at hown
  have hsz0 : w.heap.size + 1 + 1 < w0.heap.size := (hown.lt (w.heap.size + 1 + 1) rfl).2
  have HE := hide (((hg.block w.heap.size (by simp; omega) (by simp)).trans (alloc_lt _ _ _ (by simp))).trans (alloc_at w (.cells #[.slice a1 n1 c1, .int .i64 l] 48) _ rfl))
  have HS0 := hide (show w0.ownsRow (w.heap.size + 2) 4 1 (.slice (some ⟨w.heap.size + 2, 0, none⟩) n n) n ((runS rs zs l 0).1.map .bool) by
    have := hown
    rw [Nat.mul_one, show (Value.bool false).cells = #[.bool false] from rfl, toList_madeCells_one] at this
    simpa [runS, HL.out] using this)
  have HW0 := hide (((own_made_at (base := w.heap.size + 1) (e := 3) (size := 1) (w := w.alloc (.cells #[.slice a1 n1 c1, .int .i64 l] 48)) (b := w.heap.size + 1) (by simp) (by simp))).kept hg (.inr (by simp [Value.ownBlock])))
  clear hown hg
  go_loopw [7, 9] (fun vo v wr => ∃ (j go co : Nat) (x : Int), j ≤ N ∧ v = .int .i64 x ∧ Hid (x = (j : Int) * l) ∧ 0 ≤ x ∧ x ≤ 1001000 ∧ vo = .slice (some ⟨go, 0, none⟩) j co ∧ ¬ go = w.heap.size + 2 ∧ Hid (wr.ownsRow (w.heap.size + 1) 3 1 (.slice (some ⟨go, 0, none⟩) j co) j ((runS rs zs l j).2.map (.int .i64))) ∧ Hid (wr.ownsRow (w.heap.size + 2) 4 1 (.slice (some ⟨w.heap.size + 2, 0, none⟩) n n) n ((runS rs zs l j).1.map .bool)) ∧ Below w.heap.size w wr ∧ w.heap.size + 2 < wr.heap.size ∧ Hid (wr.heap[w.heap.size]? = some (.cells #[.slice a1 n1 c1, .int .i64 l] 48 (0, 0)))) (fun _ v _ => (u + 2000 - intOf v).toNat)
  case atStart => exact ⟨0, w.heap.size + 1, _, 0, by omega, rfl, hide (by simp), by omega, by omega, rfl, by omega, HW0, HS0, hb0, by omega, HE⟩
  case round =>
    clear HS0 HE hb0 HW0
    obtain ⟨j, go, co, x, hj, rfl, HX, hx0, hx1, rfl, hgo, HW, HS, hB, hsz, HE⟩ := hrel
    by_cases hlt : x < u
    · have hjN : j < N := (HIFF.out j).1 (by rw [← HX.out]; exact hlt)
      obtain ⟨o, ho⟩ : ∃ o, ownerAt zs l x = o := ⟨_, rfl⟩
      have HO := hide ho; clear ho
      obtain ⟨X, rfl⟩ : ∃ W : World, W = wr := ⟨_, rfl⟩
      have HBX := hide hB
      have HWX := HW
      have HEX := HE
      have HAX := hide (HA.out.below HBX.out (Nat.le_refl _))
      have HZX := hide (HZ.out.below HBX.out (Nat.le_refl _))
      have hwX := hB.size
      obtain ⟨ds, hds⟩ : ∃ ds, (runS rs zs l j).1 = ds := ⟨_, rfl⟩
      have HDL := hide (show ds.length = n by rw [← hds, (runS_len rs zs l j).1, HL.out])
      rw [hds] at HS
      have HSX := HS
      have HD := hide hds
      clear hds HW HS HE hB
      go_wp2_with fail
      go_loopw [10, 11] (fun vp vi wq => ∃ (i : Nat) (p : Int), i ≤ n ∧ vi = .int .i64 i ∧ vp = .int .i64 p ∧ Hid (pickTo rs ds o x i = p) ∧ -1 ≤ p ∧ p < (i : Int) ∧ Below X.heap.size X wq) (fun _ vi _ => n - (intOf vi).toNat)
      case atStart => exact ⟨0, -1, by omega, rfl, rfl, hide rfl, by omega, by omega, Below.refl _ _⟩
      case round =>
        obtain ⟨i, p, hi, rfl, rfl, HP, hp0, hp1, hBq⟩ := hrel
        have hsq := hBq.size
        by_cases hin : i < n
        · obtain ⟨r, b1, o1, hh_r, rfl, hlb, hcell⟩ := HAX.out.get rqF_len (by omega) (show i < n by omega)
          have r0 : wr.cell? ⟨b1, o1 + i * 6, none⟩ = some (.int .i64 r.id) := (hBq.cell (p := ⟨b1, o1 + (i * 6 + 0), none⟩) hlb).trans (hcell 0 _ rfl)
          have r1 : wr.cell? ⟨b1, o1 + i * 6 + 1, none⟩ = some (.int .i64 r.tenant) := (hBq.cell (p := ⟨b1, o1 + (i * 6 + 1), none⟩) hlb).trans (hcell 1 _ rfl)
          have r2 : wr.cell? ⟨b1, o1 + i * 6 + 2, none⟩ = some (.int .i64 r.line) := (hBq.cell (p := ⟨b1, o1 + (i * 6 + 2), none⟩) hlb).trans (hcell 2 _ rfl)
          have r3 : wr.cell? ⟨b1, o1 + i * 6 + 3, none⟩ = some (.bool r.write) := (hBq.cell (p := ⟨b1, o1 + (i * 6 + 3), none⟩) hlb).trans (hcell 3 _ rfl)
          have r4 : wr.cell? ⟨b1, o1 + i * 6 + 4, none⟩ = some (.int .i64 r.data) := (hBq.cell (p := ⟨b1, o1 + (i * 6 + 4), none⟩) hlb).trans (hcell 4 _ rfl)
          have r5 : wr.cell? ⟨b1, o1 + i * 6 + 5, none⟩ = some (.int .i64 r.tm) := (hBq.cell (p := ⟨b1, o1 + (i * 6 + 5), none⟩) hlb).trans (hcell 5 _ rfl)
          have HE_r := hide hh_r
          have sz_r := hBq.size
          have lt_b1 : b1 < wr.heap.size := (by have := hBq.size; omega)
          have lw_b1 := hlb
          have i0_r : (0 : Int) ≤ (i : Int) := by omega
          have i1_r : (i : Int) < (n : Int) := by omega
          clear hcell hlb hh_r
          obtain ⟨d, hd⟩ : ∃ d, ds[i]? = some d := ⟨_, List.getElem?_eq_getElem (by rw [HDL.out]; omega)⟩
          have s0 : wr.cell? ⟨w.heap.size + 2, i, none⟩ = some (.bool d) := (hBq.cell (p := ⟨w.heap.size + 2, i, none⟩) hsz).trans ((HSX.out.cellAt i (by omega)).trans (by rw [List.getElem?_map, hd]; rfl))
          have t0 : wr.cell? ⟨w.heap.size, 0, none⟩ = some (.slice a1 n1 c1) := (hBq.cell (p := ⟨w.heap.size, 0, none⟩) (by show w.heap.size < X.heap.size; omega)).trans (cell_blk HEX.out 0)
          have t1 : wr.cell? ⟨w.heap.size, 1, none⟩ = some (.int .i64 l) := (hBq.cell (p := ⟨w.heap.size, 1, none⟩) (by show w.heap.size < X.heap.size; omega)).trans (cell_blk HEX.out 1)
          have Hd := hide hd
          clear hd
          have hwq : w.heap.size + 2 < wr.heap.size := by omega
          have hwq0 : w.heap.size < wr.heap.size := by omega
          cases d
          · cases q1 : (r.tenant == o)
            · have q1' : (r.tenant != o) = true := by rw [bne, q1]; rfl
              go_wp2_with fail
              refine wp_region_held_drew (S := fun v => v.cell? ⟨w.heap.size + 2, i, none⟩ = some (.bool false) ∧ v.cell? ⟨b1, o1 + i * 6 + 1, none⟩ = some (.int .i64 r.tenant) ∧ v.cell? ⟨b1, o1 + i * 6 + 5, none⟩ = some (.int .i64 r.tm) ∧ v.cell? ⟨w.heap.size, 0, none⟩ = some (.slice a1 n1 c1) ∧ v.cell? ⟨w.heap.size, 1, none⟩ = some (.int .i64 l) ∧ Below wr.heap.size wr v) (by kernel_rfl) (⟨s0, r1, r5, t0, t1, (Below.refl _ _).drew⟩) (fun hSx => ?_)
              refine wpAnyH_take (i := 0) (v := ?_) rfl (by kernel_rfl) (by kernel_rfl) (by kernel_rfl) (fun _ _ _ h => h) (Or.inl ⟨by rfl, ?_⟩) (by assumption) ?_
              rotate_left
              · intro w _; go_simp; try with_reducible rfl
              try simp only [Act.put, List.getElem_toArray, List.getElem_cons_zero, List.getElem_cons_succ, List.setIfInBounds_toArray, List.set_cons_zero, List.set_cons_succ]
              refine wpAnyH_take (i := 1) (v := ?_) rfl (by kernel_rfl) (by kernel_rfl) (by kernel_rfl) (fun _ _ _ h => h) (Or.inl ⟨by rfl, ?_⟩) (by assumption) ?_
              rotate_left
              · intro w _; go_simp; try with_reducible rfl
              try simp only [Act.put, List.getElem_toArray, List.getElem_cons_zero, List.getElem_cons_succ, List.setIfInBounds_toArray, List.set_cons_zero, List.set_cons_succ]
              refine wpAnyH_take (i := 2) (v := ?_) rfl (by kernel_rfl) (by kernel_rfl) (by kernel_rfl) (fun _ _ _ h => h) (Or.inl ⟨by rfl, ?_⟩) (by assumption) ?_
              rotate_left
              · intro w _; go_simp; try with_reducible rfl
              try simp only [Act.put, List.getElem_toArray, List.getElem_cons_zero, List.getElem_cons_succ, List.setIfInBounds_toArray, List.set_cons_zero, List.set_cons_succ]
              refine wpAnyH_take (i := 3) (v := ?_) rfl (by kernel_rfl) (by kernel_rfl) (by kernel_rfl) (fun _ _ _ h => h) (Or.inl ⟨by rfl, ?_⟩) (by assumption) ?_
              rotate_left
              · intro w hSw; (try dsimp only at hSw); go_simp; try with_reducible rfl
              try simp only [Act.put, List.getElem_toArray, List.getElem_cons_zero, List.getElem_cons_succ, List.setIfInBounds_toArray, List.set_cons_zero, List.set_cons_succ]
              refine wpAnyH_take (i := 4) (v := ?_) rfl (by kernel_rfl) (by kernel_rfl) (by kernel_rfl) (fun _ _ _ h => h) (Or.inl ⟨by rfl, ?_⟩) (by assumption) ?_
              rotate_left
              · intro w _; go_simp; try with_reducible rfl
              try simp only [Act.put, List.getElem_toArray, List.getElem_cons_zero, List.getElem_cons_succ, List.setIfInBounds_toArray, List.set_cons_zero, List.set_cons_succ]
              refine wpAnyH_take (i := 5) (v := ?_) rfl (by kernel_rfl) (by kernel_rfl) (by kernel_rfl) (fun _ _ _ h => h) (Or.inl ⟨by rfl, ?_⟩) (by assumption) ?_
              rotate_left
              · intro w _; go_simp; try with_reducible rfl
              try simp only [Act.put, List.getElem_toArray, List.getElem_cons_zero, List.getElem_cons_succ, List.setIfInBounds_toArray, List.set_cons_zero, List.set_cons_succ]
              refine wpAnyH_take (i := 6) (v := ?_) rfl (by kernel_rfl) (by kernel_rfl) (by kernel_rfl) (fun _ _ _ h => h) (Or.inl ⟨by rfl, ?_⟩) (by assumption) ?_
              rotate_left
              · intro w _; go_simp; try with_reducible rfl
              try simp only [Act.put, List.getElem_toArray, List.getElem_cons_zero, List.getElem_cons_succ, List.setIfInBounds_toArray, List.set_cons_zero, List.set_cons_succ]
              refine wpAnyH_take (i := 7) (v := ?_) rfl (by kernel_rfl) (by kernel_rfl) (by kernel_rfl) (fun _ _ _ h => h) (Or.inl ⟨by rfl, ?_⟩) (by assumption) ?_
              rotate_left
              · intro w _; go_simp; try with_reducible rfl
              try simp only [Act.put, List.getElem_toArray, List.getElem_cons_zero, List.getElem_cons_succ, List.setIfInBounds_toArray, List.set_cons_zero, List.set_cons_succ]
              refine wpAnyH_take (i := 8) (v := ?_) rfl (by kernel_rfl) (by kernel_rfl) (by kernel_rfl) (fun _ _ _ h => h) (Or.inl ⟨by rfl, ?_⟩) (by assumption) ?_
              rotate_left
              · intro w _; go_simp; try with_reducible rfl
              try simp only [Act.put, List.getElem_toArray, List.getElem_cons_zero, List.getElem_cons_succ, List.setIfInBounds_toArray, List.set_cons_zero, List.set_cons_succ]
              refine wpAnyH_take (i := 9) (v := ?_) rfl (by kernel_rfl) (by kernel_rfl) (by kernel_rfl) (fun _ _ _ h => h) (Or.inl ⟨by rfl, ?_⟩) (by assumption) ?_
              rotate_left
              · intro w hSw; (try dsimp only at hSw); go_simp; try with_reducible rfl
              try simp only [Act.put, List.getElem_toArray, List.getElem_cons_zero, List.getElem_cons_succ, List.setIfInBounds_toArray, List.set_cons_zero, List.set_cons_succ]
              refine wpAnyH_take (i := 10) (v := ?_) rfl (by kernel_rfl) (by kernel_rfl) (by kernel_rfl) (fun _ _ _ h => h) (Or.inl ⟨by rfl, ?_⟩) (by assumption) ?_
              rotate_left
              · intro w hSw; (try dsimp only at hSw); go_simp; try with_reducible rfl
              try simp only [Act.put, List.getElem_toArray, List.getElem_cons_zero, List.getElem_cons_succ, List.setIfInBounds_toArray, List.set_cons_zero, List.set_cons_succ]
              refine wpAnyH_take (i := 11) (v := ?_) rfl (by kernel_rfl) (by kernel_rfl) (by kernel_rfl) (fun _ _ _ h => h) (Or.inl ⟨by rfl, ?_⟩) (by assumption) ?_
              rotate_left
              · intro w _; go_simp; try with_reducible rfl
              try simp only [Act.put, List.getElem_toArray, List.getElem_cons_zero, List.getElem_cons_succ, List.setIfInBounds_toArray, List.set_cons_zero, List.set_cons_succ]
              refine wpAnyH_ready (rs := [12]) (by kernel_rfl) (by simp) ?_
              refine AllReadyH.cons rfl (fun K hK => ?_) AllReadyH.nil
              go_simp
              refine (spec_OwnerAt_is _ _ _ zs l x o HO.out _ (by omega) (HZX.out.below (B := X.heap.size) (by first | exact bthen hBq (Below.refl _ _).drew (by omega)) (Nat.le_refl _)) hs1).mono ?_
              rintro e y1 ⟨rfl, hy1⟩
              refine hK.out _ _ (⟨(hy1.cell (p := ⟨w.heap.size + 2, i, none⟩) hwq).trans hSx.1, (hy1.cell (p := ⟨b1, o1 + i * 6 + 1, none⟩) lt_b1).trans hSx.2.1, (hy1.cell (p := ⟨b1, o1 + i * 6 + 5, none⟩) lt_b1).trans hSx.2.2.1, (hy1.cell (p := ⟨w.heap.size, 0, none⟩) hwq0).trans hSx.2.2.2.1, (hy1.cell (p := ⟨w.heap.size, 1, none⟩) hwq0).trans hSx.2.2.2.2.1, bthen hSx.2.2.2.2.2 hy1 (Nat.le_refl _)⟩) (fun hSy => ?_)
              clear hSx hK K
              have hSx := hSy; clear hSy
              try simp only [Act.put, List.getElem_toArray, List.getElem_cons_zero, List.getElem_cons_succ, List.setIfInBounds_toArray, List.set_cons_zero, List.set_cons_succ]
              refine wpAnyH_take (i := 13) (v := ?_) rfl (by kernel_rfl) (by kernel_rfl) (by kernel_rfl) (fun _ _ _ h => h) (Or.inl ⟨by rfl, ?_⟩) (by assumption) ?_
              rotate_left
              · intro w _; go_simp; try with_reducible rfl
              try simp only [Act.put, List.getElem_toArray, List.getElem_cons_zero, List.getElem_cons_succ, List.setIfInBounds_toArray, List.set_cons_zero, List.set_cons_succ]
              refine wpAnyH_take (i := 14) (v := ?_) rfl (by kernel_rfl) (by kernel_rfl) (by kernel_rfl) (fun _ _ _ h => h) (Or.inl ⟨by rfl, ?_⟩) (by assumption) ?_
              rotate_left
              · intro w _; go_simp; try with_reducible rfl
              try simp only [Act.put, List.getElem_toArray, List.getElem_cons_zero, List.getElem_cons_succ, List.setIfInBounds_toArray, List.set_cons_zero, List.set_cons_succ]
              refine wpAnyH_take (i := 15) (v := ?_) rfl (by kernel_rfl) (by kernel_rfl) (by kernel_rfl) (fun _ _ _ h => h) (Or.inl ⟨by rfl, ?_⟩) (by assumption) ?_
              rotate_left
              · intro w _; go_simp; try with_reducible rfl
              try simp only [Act.put, List.getElem_toArray, List.getElem_cons_zero, List.getElem_cons_succ, List.setIfInBounds_toArray, List.set_cons_zero, List.set_cons_succ]
              refine wpAnyH_take (i := 16) (v := undef) rfl (by kernel_rfl) (by kernel_rfl) (by kernel_rfl) (fun _ _ _ h => h) (Or.inr ⟨by rfl, rfl⟩) (by assumption) ?_
              try simp only [Act.put, List.getElem_toArray, List.getElem_cons_zero, List.getElem_cons_succ, List.setIfInBounds_toArray, List.set_cons_zero, List.set_cons_succ]
              refine wpAnyH_take (i := 17) (v := undef) rfl (by kernel_rfl) (by kernel_rfl) (by kernel_rfl) (fun _ _ _ h => h) (Or.inr ⟨by rfl, rfl⟩) (by assumption) ?_
              try simp only [Act.put, List.getElem_toArray, List.getElem_cons_zero, List.getElem_cons_succ, List.setIfInBounds_toArray, List.set_cons_zero, List.set_cons_succ]
              refine wpAnyH_take (i := 18) (v := undef) rfl (by kernel_rfl) (by kernel_rfl) (by kernel_rfl) (fun _ _ _ h => h) (Or.inr ⟨by rfl, rfl⟩) (by assumption) ?_
              try simp only [Act.put, List.getElem_toArray, List.getElem_cons_zero, List.getElem_cons_succ, List.setIfInBounds_toArray, List.set_cons_zero, List.set_cons_succ]
              refine wpAnyH_take (i := 19) (v := undef) rfl (by kernel_rfl) (by kernel_rfl) (by kernel_rfl) (fun _ _ _ h => h) (Or.inr ⟨by rfl, rfl⟩) (by assumption) ?_
              try simp only [Act.put, List.getElem_toArray, List.getElem_cons_zero, List.getElem_cons_succ, List.setIfInBounds_toArray, List.set_cons_zero, List.set_cons_succ]
              refine wpAnyH_take (i := 20) (v := undef) rfl (by kernel_rfl) (by kernel_rfl) (by kernel_rfl) (fun _ _ _ h => h) (Or.inr ⟨by rfl, rfl⟩) (by assumption) ?_
              try simp only [Act.put, List.getElem_toArray, List.getElem_cons_zero, List.getElem_cons_succ, List.setIfInBounds_toArray, List.set_cons_zero, List.set_cons_succ]
              refine wpAnyH_take (i := 21) (v := undef) rfl (by kernel_rfl) (by kernel_rfl) (by kernel_rfl) (fun _ _ _ h => h) (Or.inr ⟨by rfl, rfl⟩) (by assumption) ?_
              try simp only [Act.put, List.getElem_toArray, List.getElem_cons_zero, List.getElem_cons_succ, List.setIfInBounds_toArray, List.set_cons_zero, List.set_cons_succ]
              refine wpAnyH_take (i := 22) (v := undef) rfl (by kernel_rfl) (by kernel_rfl) (by kernel_rfl) (fun _ _ _ h => h) (Or.inr ⟨by rfl, rfl⟩) (by assumption) ?_
              try simp only [Act.put, List.getElem_toArray, List.getElem_cons_zero, List.getElem_cons_succ, List.setIfInBounds_toArray, List.set_cons_zero, List.set_cons_succ]
              refine wpAnyH_take (i := 23) (v := ?_) rfl (by kernel_rfl) (by kernel_rfl) (by kernel_rfl) (fun _ _ _ h => h) (Or.inl ⟨by rfl, ?_⟩) (by assumption) ?_
              rotate_left
              · intro w _; go_simp; try with_reducible rfl
              try simp only [Act.put, List.getElem_toArray, List.getElem_cons_zero, List.getElem_cons_succ, List.setIfInBounds_toArray, List.set_cons_zero, List.set_cons_succ]
              refine wpAnyH_done (by kernel_rfl) ?_ _
              have hBy := hide (bthen hBq hSx.2.2.2.2.2 (by omega))
              have hsy := hSx.2.2.2.2.2.size
              clear hSx hy1
              go_wp2_with fail
              go_roundw
              case rel => exact ⟨i + 1, p, by omega, by go_num, rfl, hide (pick_no HP.out HE_r.out Hd.out (by simp [canB, q1])), by omega, by omega, hBy.out⟩
              case measure => simp [intOf]; omega
            · have q1' : (r.tenant != o) = false := by rw [bne, q1]; rfl
              by_cases q2 : r.tm ≤ x
              · have HC := hide (show canB o x false r = true by simp [canB, q1, q2])
                have q4 : decide (x < r.tm) = false := by simpa using q2
                go_wp2_with fail
                refine wp_region_held_drew (S := fun v => v.cell? ⟨w.heap.size + 2, i, none⟩ = some (.bool false) ∧ v.cell? ⟨b1, o1 + i * 6 + 1, none⟩ = some (.int .i64 r.tenant) ∧ v.cell? ⟨b1, o1 + i * 6 + 5, none⟩ = some (.int .i64 r.tm) ∧ v.cell? ⟨w.heap.size, 0, none⟩ = some (.slice a1 n1 c1) ∧ v.cell? ⟨w.heap.size, 1, none⟩ = some (.int .i64 l) ∧ Below wr.heap.size wr v) (by kernel_rfl) (⟨s0, r1, r5, t0, t1, (Below.refl _ _).drew⟩) (fun hSx => ?_)
                refine wpAnyH_take (i := 0) (v := ?_) rfl (by kernel_rfl) (by kernel_rfl) (by kernel_rfl) (fun _ _ _ h => h) (Or.inl ⟨by rfl, ?_⟩) (by assumption) ?_
                rotate_left
                · intro w _; go_simp; try with_reducible rfl
                try simp only [Act.put, List.getElem_toArray, List.getElem_cons_zero, List.getElem_cons_succ, List.setIfInBounds_toArray, List.set_cons_zero, List.set_cons_succ]
                refine wpAnyH_take (i := 1) (v := ?_) rfl (by kernel_rfl) (by kernel_rfl) (by kernel_rfl) (fun _ _ _ h => h) (Or.inl ⟨by rfl, ?_⟩) (by assumption) ?_
                rotate_left
                · intro w _; go_simp; try with_reducible rfl
                try simp only [Act.put, List.getElem_toArray, List.getElem_cons_zero, List.getElem_cons_succ, List.setIfInBounds_toArray, List.set_cons_zero, List.set_cons_succ]
                refine wpAnyH_take (i := 2) (v := ?_) rfl (by kernel_rfl) (by kernel_rfl) (by kernel_rfl) (fun _ _ _ h => h) (Or.inl ⟨by rfl, ?_⟩) (by assumption) ?_
                rotate_left
                · intro w _; go_simp; try with_reducible rfl
                try simp only [Act.put, List.getElem_toArray, List.getElem_cons_zero, List.getElem_cons_succ, List.setIfInBounds_toArray, List.set_cons_zero, List.set_cons_succ]
                refine wpAnyH_take (i := 3) (v := ?_) rfl (by kernel_rfl) (by kernel_rfl) (by kernel_rfl) (fun _ _ _ h => h) (Or.inl ⟨by rfl, ?_⟩) (by assumption) ?_
                rotate_left
                · intro w hSw; (try dsimp only at hSw); go_simp; try with_reducible rfl
                try simp only [Act.put, List.getElem_toArray, List.getElem_cons_zero, List.getElem_cons_succ, List.setIfInBounds_toArray, List.set_cons_zero, List.set_cons_succ]
                refine wpAnyH_take (i := 4) (v := ?_) rfl (by kernel_rfl) (by kernel_rfl) (by kernel_rfl) (fun _ _ _ h => h) (Or.inl ⟨by rfl, ?_⟩) (by assumption) ?_
                rotate_left
                · intro w _; go_simp; try with_reducible rfl
                try simp only [Act.put, List.getElem_toArray, List.getElem_cons_zero, List.getElem_cons_succ, List.setIfInBounds_toArray, List.set_cons_zero, List.set_cons_succ]
                refine wpAnyH_take (i := 5) (v := ?_) rfl (by kernel_rfl) (by kernel_rfl) (by kernel_rfl) (fun _ _ _ h => h) (Or.inl ⟨by rfl, ?_⟩) (by assumption) ?_
                rotate_left
                · intro w _; go_simp; try with_reducible rfl
                try simp only [Act.put, List.getElem_toArray, List.getElem_cons_zero, List.getElem_cons_succ, List.setIfInBounds_toArray, List.set_cons_zero, List.set_cons_succ]
                refine wpAnyH_take (i := 6) (v := ?_) rfl (by kernel_rfl) (by kernel_rfl) (by kernel_rfl) (fun _ _ _ h => h) (Or.inl ⟨by rfl, ?_⟩) (by assumption) ?_
                rotate_left
                · intro w _; go_simp; try with_reducible rfl
                try simp only [Act.put, List.getElem_toArray, List.getElem_cons_zero, List.getElem_cons_succ, List.setIfInBounds_toArray, List.set_cons_zero, List.set_cons_succ]
                refine wpAnyH_take (i := 7) (v := ?_) rfl (by kernel_rfl) (by kernel_rfl) (by kernel_rfl) (fun _ _ _ h => h) (Or.inl ⟨by rfl, ?_⟩) (by assumption) ?_
                rotate_left
                · intro w _; go_simp; try with_reducible rfl
                try simp only [Act.put, List.getElem_toArray, List.getElem_cons_zero, List.getElem_cons_succ, List.setIfInBounds_toArray, List.set_cons_zero, List.set_cons_succ]
                refine wpAnyH_take (i := 8) (v := ?_) rfl (by kernel_rfl) (by kernel_rfl) (by kernel_rfl) (fun _ _ _ h => h) (Or.inl ⟨by rfl, ?_⟩) (by assumption) ?_
                rotate_left
                · intro w _; go_simp; try with_reducible rfl
                try simp only [Act.put, List.getElem_toArray, List.getElem_cons_zero, List.getElem_cons_succ, List.setIfInBounds_toArray, List.set_cons_zero, List.set_cons_succ]
                refine wpAnyH_take (i := 9) (v := ?_) rfl (by kernel_rfl) (by kernel_rfl) (by kernel_rfl) (fun _ _ _ h => h) (Or.inl ⟨by rfl, ?_⟩) (by assumption) ?_
                rotate_left
                · intro w hSw; (try dsimp only at hSw); go_simp; try with_reducible rfl
                try simp only [Act.put, List.getElem_toArray, List.getElem_cons_zero, List.getElem_cons_succ, List.setIfInBounds_toArray, List.set_cons_zero, List.set_cons_succ]
                refine wpAnyH_take (i := 10) (v := ?_) rfl (by kernel_rfl) (by kernel_rfl) (by kernel_rfl) (fun _ _ _ h => h) (Or.inl ⟨by rfl, ?_⟩) (by assumption) ?_
                rotate_left
                · intro w hSw; (try dsimp only at hSw); go_simp; try with_reducible rfl
                try simp only [Act.put, List.getElem_toArray, List.getElem_cons_zero, List.getElem_cons_succ, List.setIfInBounds_toArray, List.set_cons_zero, List.set_cons_succ]
                refine wpAnyH_take (i := 11) (v := ?_) rfl (by kernel_rfl) (by kernel_rfl) (by kernel_rfl) (fun _ _ _ h => h) (Or.inl ⟨by rfl, ?_⟩) (by assumption) ?_
                rotate_left
                · intro w _; go_simp; try with_reducible rfl
                try simp only [Act.put, List.getElem_toArray, List.getElem_cons_zero, List.getElem_cons_succ, List.setIfInBounds_toArray, List.set_cons_zero, List.set_cons_succ]
                refine wpAnyH_ready (rs := [12]) (by kernel_rfl) (by simp) ?_
                refine AllReadyH.cons rfl (fun K hK => ?_) AllReadyH.nil
                go_simp
                refine (spec_OwnerAt_is _ _ _ zs l x o HO.out _ (by omega) (HZX.out.below (B := X.heap.size) (by first | exact bthen hBq (Below.refl _ _).drew (by omega)) (Nat.le_refl _)) hs1).mono ?_
                rintro e y1 ⟨rfl, hy1⟩
                refine hK.out _ _ (⟨(hy1.cell (p := ⟨w.heap.size + 2, i, none⟩) hwq).trans hSx.1, (hy1.cell (p := ⟨b1, o1 + i * 6 + 1, none⟩) lt_b1).trans hSx.2.1, (hy1.cell (p := ⟨b1, o1 + i * 6 + 5, none⟩) lt_b1).trans hSx.2.2.1, (hy1.cell (p := ⟨w.heap.size, 0, none⟩) hwq0).trans hSx.2.2.2.1, (hy1.cell (p := ⟨w.heap.size, 1, none⟩) hwq0).trans hSx.2.2.2.2.1, bthen hSx.2.2.2.2.2 hy1 (Nat.le_refl _)⟩) (fun hSy => ?_)
                clear hSx hK K
                have hSx := hSy; clear hSy
                try simp only [Act.put, List.getElem_toArray, List.getElem_cons_zero, List.getElem_cons_succ, List.setIfInBounds_toArray, List.set_cons_zero, List.set_cons_succ]
                refine wpAnyH_take (i := 13) (v := ?_) rfl (by kernel_rfl) (by kernel_rfl) (by kernel_rfl) (fun _ _ _ h => h) (Or.inl ⟨by rfl, ?_⟩) (by assumption) ?_
                rotate_left
                · intro w _; go_simp; try with_reducible rfl
                try simp only [Act.put, List.getElem_toArray, List.getElem_cons_zero, List.getElem_cons_succ, List.setIfInBounds_toArray, List.set_cons_zero, List.set_cons_succ]
                refine wpAnyH_take (i := 14) (v := ?_) rfl (by kernel_rfl) (by kernel_rfl) (by kernel_rfl) (fun _ _ _ h => h) (Or.inl ⟨by rfl, ?_⟩) (by assumption) ?_
                rotate_left
                · intro w _; go_simp; try with_reducible rfl
                try simp only [Act.put, List.getElem_toArray, List.getElem_cons_zero, List.getElem_cons_succ, List.setIfInBounds_toArray, List.set_cons_zero, List.set_cons_succ]
                refine wpAnyH_take (i := 15) (v := ?_) rfl (by kernel_rfl) (by kernel_rfl) (by kernel_rfl) (fun _ _ _ h => h) (Or.inl ⟨by rfl, ?_⟩) (by assumption) ?_
                rotate_left
                · intro w _; go_simp; try with_reducible rfl
                try simp only [Act.put, List.getElem_toArray, List.getElem_cons_zero, List.getElem_cons_succ, List.setIfInBounds_toArray, List.set_cons_zero, List.set_cons_succ]
                refine wpAnyH_take (i := 16) (v := ?_) rfl (by kernel_rfl) (by kernel_rfl) (by kernel_rfl) (fun _ _ _ h => h) (Or.inl ⟨by rfl, ?_⟩) (by assumption) ?_
                rotate_left
                · intro w _; go_simp; try with_reducible rfl
                try simp only [Act.put, List.getElem_toArray, List.getElem_cons_zero, List.getElem_cons_succ, List.setIfInBounds_toArray, List.set_cons_zero, List.set_cons_succ]
                refine wpAnyH_take (i := 17) (v := ?_) rfl (by kernel_rfl) (by kernel_rfl) (by kernel_rfl) (fun _ _ _ h => h) (Or.inl ⟨by rfl, ?_⟩) (by assumption) ?_
                rotate_left
                · intro w _; go_simp; try with_reducible rfl
                try simp only [Act.put, List.getElem_toArray, List.getElem_cons_zero, List.getElem_cons_succ, List.setIfInBounds_toArray, List.set_cons_zero, List.set_cons_succ]
                refine wpAnyH_take (i := 18) (v := ?_) rfl (by kernel_rfl) (by kernel_rfl) (by kernel_rfl) (fun _ _ _ h => h) (Or.inl ⟨by rfl, ?_⟩) (by assumption) ?_
                rotate_left
                · intro w _; go_simp; try with_reducible rfl
                try simp only [Act.put, List.getElem_toArray, List.getElem_cons_zero, List.getElem_cons_succ, List.setIfInBounds_toArray, List.set_cons_zero, List.set_cons_succ]
                refine wpAnyH_take (i := 19) (v := ?_) rfl (by kernel_rfl) (by kernel_rfl) (by kernel_rfl) (fun _ _ _ h => h) (Or.inl ⟨by rfl, ?_⟩) (by assumption) ?_
                rotate_left
                · intro w _; go_simp; try with_reducible rfl
                try simp only [Act.put, List.getElem_toArray, List.getElem_cons_zero, List.getElem_cons_succ, List.setIfInBounds_toArray, List.set_cons_zero, List.set_cons_succ]
                refine wpAnyH_take (i := 20) (v := ?_) rfl (by kernel_rfl) (by kernel_rfl) (by kernel_rfl) (fun _ _ _ h => h) (Or.inl ⟨by rfl, ?_⟩) (by assumption) ?_
                rotate_left
                · intro w hSw; (try dsimp only at hSw); go_simp; try with_reducible rfl
                try simp only [Act.put, List.getElem_toArray, List.getElem_cons_zero, List.getElem_cons_succ, List.setIfInBounds_toArray, List.set_cons_zero, List.set_cons_succ]
                refine wpAnyH_take (i := 21) (v := ?_) rfl (by kernel_rfl) (by kernel_rfl) (by kernel_rfl) (fun _ _ _ h => h) (Or.inl ⟨by rfl, ?_⟩) (by assumption) ?_
                rotate_left
                · intro w _; go_simp; try with_reducible rfl
                try simp only [Act.put, List.getElem_toArray, List.getElem_cons_zero, List.getElem_cons_succ, List.setIfInBounds_toArray, List.set_cons_zero, List.set_cons_succ]
                refine wpAnyH_take (i := 22) (v := ?_) rfl (by kernel_rfl) (by kernel_rfl) (by kernel_rfl) (fun _ _ _ h => h) (Or.inl ⟨by rfl, ?_⟩) (by assumption) ?_
                rotate_left
                · intro w _; go_simp; try with_reducible rfl
                try simp only [Act.put, List.getElem_toArray, List.getElem_cons_zero, List.getElem_cons_succ, List.setIfInBounds_toArray, List.set_cons_zero, List.set_cons_succ]
                refine wpAnyH_take (i := 23) (v := ?_) rfl (by kernel_rfl) (by kernel_rfl) (by kernel_rfl) (fun _ _ _ h => h) (Or.inl ⟨by rfl, ?_⟩) (by assumption) ?_
                rotate_left
                · intro w _; go_simp; try with_reducible rfl
                try simp only [Act.put, List.getElem_toArray, List.getElem_cons_zero, List.getElem_cons_succ, List.setIfInBounds_toArray, List.set_cons_zero, List.set_cons_succ]
                refine wpAnyH_done (by kernel_rfl) ?_ _
                have hBy := hide (bthen hBq hSx.2.2.2.2.2 (by omega))
                have hsy := hSx.2.2.2.2.2.size
                have hBy1 := hSx.2.2.2.2.2
                obtain ⟨Y, rfl⟩ : ∃ W : World, W = y1 := ⟨_, rfl⟩
                clear hSx hy1
                by_cases q3 : p < 0
                · go_wp2_with fail
                  go_quiet (fail)
                  go_wp2_with fail
                  go_roundw
                  case rel => exact ⟨i + 1, i, by omega, by go_num, rfl, hide (pick_yes HP.out HE_r.out Hd.out HC.out (.inl q3)), by omega, by omega, bdrawn hBy.out _⟩
                  case measure => simp [intOf]; omega
                · obtain ⟨m', rfl⟩ := Int.eq_ofNat_of_zero_le (show 0 ≤ p by omega)
                  obtain ⟨f, b', o', hh_f, hbo, hlb, hcell⟩ := HAX.out.get rqF_len (by omega) (show m' < n by omega)
                  obtain ⟨rfl, rfl⟩ : b1 = b' ∧ o1 = o' := by injection hbo with hbo; injection hbo with hb1 hb2; exact ⟨hb1, hb2⟩
                  clear hbo
                  have k0 : wr.cell? ⟨b1, o1 + m' * 6, none⟩ = some (.int .i64 f.id) := (hBq.cell (p := ⟨b1, o1 + (m' * 6 + 0), none⟩) hlb).trans (hcell 0 _ rfl)
                  have k1 : wr.cell? ⟨b1, o1 + m' * 6 + 1, none⟩ = some (.int .i64 f.tenant) := (hBq.cell (p := ⟨b1, o1 + (m' * 6 + 1), none⟩) hlb).trans (hcell 1 _ rfl)
                  have k2 : wr.cell? ⟨b1, o1 + m' * 6 + 2, none⟩ = some (.int .i64 f.line) := (hBq.cell (p := ⟨b1, o1 + (m' * 6 + 2), none⟩) hlb).trans (hcell 2 _ rfl)
                  have k3 : wr.cell? ⟨b1, o1 + m' * 6 + 3, none⟩ = some (.bool f.write) := (hBq.cell (p := ⟨b1, o1 + (m' * 6 + 3), none⟩) hlb).trans (hcell 3 _ rfl)
                  have k4 : wr.cell? ⟨b1, o1 + m' * 6 + 4, none⟩ = some (.int .i64 f.data) := (hBq.cell (p := ⟨b1, o1 + (m' * 6 + 4), none⟩) hlb).trans (hcell 4 _ rfl)
                  have k5 : wr.cell? ⟨b1, o1 + m' * 6 + 5, none⟩ = some (.int .i64 f.tm) := (hBq.cell (p := ⟨b1, o1 + (m' * 6 + 5), none⟩) hlb).trans (hcell 5 _ rfl)
                  have HE_f := hide hh_f
                  have sz_f := hBq.size
                  have lt_b1 : b1 < wr.heap.size := (by have := hBq.size; omega)
                  have i0_f : (0 : Int) ≤ (m' : Int) := by omega
                  have i1_f : (m' : Int) < (n : Int) := by omega
                  clear hcell hlb hh_f
                  have HBA := hide (befAt_of (r := r) HE_f.out)
                  obtain ⟨v, hv⟩ : ∃ v, befB r f = v := ⟨_, rfl⟩
                  have Hv := hide hv
                  clear hv
                  have r0 := (hBy1.cell (p := ⟨b1, o1 + i * 6, none⟩) lt_b1).trans r0
                  have r1 := (hBy1.cell (p := ⟨b1, o1 + i * 6 + 1, none⟩) lt_b1).trans r1
                  have r2 := (hBy1.cell (p := ⟨b1, o1 + i * 6 + 2, none⟩) lt_b1).trans r2
                  have r3 := (hBy1.cell (p := ⟨b1, o1 + i * 6 + 3, none⟩) lt_b1).trans r3
                  have r4 := (hBy1.cell (p := ⟨b1, o1 + i * 6 + 4, none⟩) lt_b1).trans r4
                  have r5 := (hBy1.cell (p := ⟨b1, o1 + i * 6 + 5, none⟩) lt_b1).trans r5
                  have k0 := (hBy1.cell (p := ⟨b1, o1 + m' * 6, none⟩) lt_b1).trans k0
                  have k1 := (hBy1.cell (p := ⟨b1, o1 + m' * 6 + 1, none⟩) lt_b1).trans k1
                  have k2 := (hBy1.cell (p := ⟨b1, o1 + m' * 6 + 2, none⟩) lt_b1).trans k2
                  have k3 := (hBy1.cell (p := ⟨b1, o1 + m' * 6 + 3, none⟩) lt_b1).trans k3
                  have k4 := (hBy1.cell (p := ⟨b1, o1 + m' * 6 + 4, none⟩) lt_b1).trans k4
                  have k5 := (hBy1.cell (p := ⟨b1, o1 + m' * 6 + 5, none⟩) lt_b1).trans k5
                  have hl9 : b1 < Y.heap.size := by omega
                  cases v
                  all_goals
                    go_wp2_with fail
                    go_region_held3 (fun v => v.cell? ⟨b1, o1 + i * 6, none⟩ = some (.int .i64 r.id) ∧ v.cell? ⟨b1, o1 + i * 6 + 1, none⟩ = some (.int .i64 r.tenant) ∧ v.cell? ⟨b1, o1 + i * 6 + 2, none⟩ = some (.int .i64 r.line) ∧ v.cell? ⟨b1, o1 + i * 6 + 3, none⟩ = some (.bool r.write) ∧ v.cell? ⟨b1, o1 + i * 6 + 4, none⟩ = some (.int .i64 r.data) ∧ v.cell? ⟨b1, o1 + i * 6 + 5, none⟩ = some (.int .i64 r.tm) ∧ v.cell? ⟨b1, o1 + m' * 6, none⟩ = some (.int .i64 f.id) ∧ v.cell? ⟨b1, o1 + m' * 6 + 1, none⟩ = some (.int .i64 f.tenant) ∧ v.cell? ⟨b1, o1 + m' * 6 + 2, none⟩ = some (.int .i64 f.line) ∧ v.cell? ⟨b1, o1 + m' * 6 + 3, none⟩ = some (.bool f.write) ∧ v.cell? ⟨b1, o1 + m' * 6 + 4, none⟩ = some (.int .i64 f.data) ∧ v.cell? ⟨b1, o1 + m' * 6 + 5, none⟩ = some (.int .i64 f.tm)) (go_keep) (first | (go_at_call 126; refine (spec_l19Before_is r f _ Hv.out _).mono ?_; rintro e w1 ⟨rfl, h1⟩; (try (have hz0 : Y.heap.size < w1.heap.size := (by have := h1.size; (try simp at this); omega); have hl0 := (fun o => (bcell h1).1 (Y.heap.size) o (by go_size)); have hv0 := (fun o => (bcell h1).2 (Y.heap.size) o (by go_size)))); replace h1 : Below Y.heap.size Y w1 := bthen (by go_grown) h1 (by first | go_size | omega); obtain ⟨hc1, hf1⟩ := bcell h1; have hB2 : Below X.heap.size X w1 := bthen hBy.out h1 (by omega)))
                    go_wp2_with fail
                    go_roundw
                  case rel => exact ⟨i + 1, m', by omega, by go_num, rfl, hide (pick_keep HP.out HE_r.out Hd.out (by omega) (by rw [HBA.out, Hv.out])), by omega, by omega, by assumption⟩
                  case measure => simp [intOf]; omega
                  case rel => exact ⟨i + 1, i, by omega, by go_num, rfl, hide (pick_yes HP.out HE_r.out Hd.out HC.out (.inr (by rw [HBA.out, Hv.out]))), by omega, by omega, by assumption⟩
                  case measure => simp [intOf]; omega
              · have q3 : decide (r.tm ≤ x) = false := by simpa using q2
                have q4 : decide (x < r.tm) = true := by simp; omega
                go_wp2_with fail
                refine wp_region_held_drew (S := fun v => v.cell? ⟨w.heap.size + 2, i, none⟩ = some (.bool false) ∧ v.cell? ⟨b1, o1 + i * 6 + 1, none⟩ = some (.int .i64 r.tenant) ∧ v.cell? ⟨b1, o1 + i * 6 + 5, none⟩ = some (.int .i64 r.tm) ∧ v.cell? ⟨w.heap.size, 0, none⟩ = some (.slice a1 n1 c1) ∧ v.cell? ⟨w.heap.size, 1, none⟩ = some (.int .i64 l) ∧ Below wr.heap.size wr v) (by kernel_rfl) (⟨s0, r1, r5, t0, t1, (Below.refl _ _).drew⟩) (fun hSx => ?_)
                refine wpAnyH_take (i := 0) (v := ?_) rfl (by kernel_rfl) (by kernel_rfl) (by kernel_rfl) (fun _ _ _ h => h) (Or.inl ⟨by rfl, ?_⟩) (by assumption) ?_
                rotate_left
                · intro w _; go_simp; try with_reducible rfl
                try simp only [Act.put, List.getElem_toArray, List.getElem_cons_zero, List.getElem_cons_succ, List.setIfInBounds_toArray, List.set_cons_zero, List.set_cons_succ]
                refine wpAnyH_take (i := 1) (v := ?_) rfl (by kernel_rfl) (by kernel_rfl) (by kernel_rfl) (fun _ _ _ h => h) (Or.inl ⟨by rfl, ?_⟩) (by assumption) ?_
                rotate_left
                · intro w _; go_simp; try with_reducible rfl
                try simp only [Act.put, List.getElem_toArray, List.getElem_cons_zero, List.getElem_cons_succ, List.setIfInBounds_toArray, List.set_cons_zero, List.set_cons_succ]
                refine wpAnyH_take (i := 2) (v := ?_) rfl (by kernel_rfl) (by kernel_rfl) (by kernel_rfl) (fun _ _ _ h => h) (Or.inl ⟨by rfl, ?_⟩) (by assumption) ?_
                rotate_left
                · intro w _; go_simp; try with_reducible rfl
                try simp only [Act.put, List.getElem_toArray, List.getElem_cons_zero, List.getElem_cons_succ, List.setIfInBounds_toArray, List.set_cons_zero, List.set_cons_succ]
                refine wpAnyH_take (i := 3) (v := ?_) rfl (by kernel_rfl) (by kernel_rfl) (by kernel_rfl) (fun _ _ _ h => h) (Or.inl ⟨by rfl, ?_⟩) (by assumption) ?_
                rotate_left
                · intro w hSw; (try dsimp only at hSw); go_simp; try with_reducible rfl
                try simp only [Act.put, List.getElem_toArray, List.getElem_cons_zero, List.getElem_cons_succ, List.setIfInBounds_toArray, List.set_cons_zero, List.set_cons_succ]
                refine wpAnyH_take (i := 4) (v := ?_) rfl (by kernel_rfl) (by kernel_rfl) (by kernel_rfl) (fun _ _ _ h => h) (Or.inl ⟨by rfl, ?_⟩) (by assumption) ?_
                rotate_left
                · intro w _; go_simp; try with_reducible rfl
                try simp only [Act.put, List.getElem_toArray, List.getElem_cons_zero, List.getElem_cons_succ, List.setIfInBounds_toArray, List.set_cons_zero, List.set_cons_succ]
                refine wpAnyH_take (i := 5) (v := ?_) rfl (by kernel_rfl) (by kernel_rfl) (by kernel_rfl) (fun _ _ _ h => h) (Or.inl ⟨by rfl, ?_⟩) (by assumption) ?_
                rotate_left
                · intro w _; go_simp; try with_reducible rfl
                try simp only [Act.put, List.getElem_toArray, List.getElem_cons_zero, List.getElem_cons_succ, List.setIfInBounds_toArray, List.set_cons_zero, List.set_cons_succ]
                refine wpAnyH_take (i := 6) (v := ?_) rfl (by kernel_rfl) (by kernel_rfl) (by kernel_rfl) (fun _ _ _ h => h) (Or.inl ⟨by rfl, ?_⟩) (by assumption) ?_
                rotate_left
                · intro w _; go_simp; try with_reducible rfl
                try simp only [Act.put, List.getElem_toArray, List.getElem_cons_zero, List.getElem_cons_succ, List.setIfInBounds_toArray, List.set_cons_zero, List.set_cons_succ]
                refine wpAnyH_take (i := 7) (v := ?_) rfl (by kernel_rfl) (by kernel_rfl) (by kernel_rfl) (fun _ _ _ h => h) (Or.inl ⟨by rfl, ?_⟩) (by assumption) ?_
                rotate_left
                · intro w _; go_simp; try with_reducible rfl
                try simp only [Act.put, List.getElem_toArray, List.getElem_cons_zero, List.getElem_cons_succ, List.setIfInBounds_toArray, List.set_cons_zero, List.set_cons_succ]
                refine wpAnyH_take (i := 8) (v := ?_) rfl (by kernel_rfl) (by kernel_rfl) (by kernel_rfl) (fun _ _ _ h => h) (Or.inl ⟨by rfl, ?_⟩) (by assumption) ?_
                rotate_left
                · intro w _; go_simp; try with_reducible rfl
                try simp only [Act.put, List.getElem_toArray, List.getElem_cons_zero, List.getElem_cons_succ, List.setIfInBounds_toArray, List.set_cons_zero, List.set_cons_succ]
                refine wpAnyH_take (i := 9) (v := ?_) rfl (by kernel_rfl) (by kernel_rfl) (by kernel_rfl) (fun _ _ _ h => h) (Or.inl ⟨by rfl, ?_⟩) (by assumption) ?_
                rotate_left
                · intro w hSw; (try dsimp only at hSw); go_simp; try with_reducible rfl
                try simp only [Act.put, List.getElem_toArray, List.getElem_cons_zero, List.getElem_cons_succ, List.setIfInBounds_toArray, List.set_cons_zero, List.set_cons_succ]
                refine wpAnyH_take (i := 10) (v := ?_) rfl (by kernel_rfl) (by kernel_rfl) (by kernel_rfl) (fun _ _ _ h => h) (Or.inl ⟨by rfl, ?_⟩) (by assumption) ?_
                rotate_left
                · intro w hSw; (try dsimp only at hSw); go_simp; try with_reducible rfl
                try simp only [Act.put, List.getElem_toArray, List.getElem_cons_zero, List.getElem_cons_succ, List.setIfInBounds_toArray, List.set_cons_zero, List.set_cons_succ]
                refine wpAnyH_take (i := 11) (v := ?_) rfl (by kernel_rfl) (by kernel_rfl) (by kernel_rfl) (fun _ _ _ h => h) (Or.inl ⟨by rfl, ?_⟩) (by assumption) ?_
                rotate_left
                · intro w _; go_simp; try with_reducible rfl
                try simp only [Act.put, List.getElem_toArray, List.getElem_cons_zero, List.getElem_cons_succ, List.setIfInBounds_toArray, List.set_cons_zero, List.set_cons_succ]
                refine wpAnyH_ready (rs := [12]) (by kernel_rfl) (by simp) ?_
                refine AllReadyH.cons rfl (fun K hK => ?_) AllReadyH.nil
                go_simp
                refine (spec_OwnerAt_is _ _ _ zs l x o HO.out _ (by omega) (HZX.out.below (B := X.heap.size) (by first | exact bthen hBq (Below.refl _ _).drew (by omega)) (Nat.le_refl _)) hs1).mono ?_
                rintro e y1 ⟨rfl, hy1⟩
                refine hK.out _ _ (⟨(hy1.cell (p := ⟨w.heap.size + 2, i, none⟩) hwq).trans hSx.1, (hy1.cell (p := ⟨b1, o1 + i * 6 + 1, none⟩) lt_b1).trans hSx.2.1, (hy1.cell (p := ⟨b1, o1 + i * 6 + 5, none⟩) lt_b1).trans hSx.2.2.1, (hy1.cell (p := ⟨w.heap.size, 0, none⟩) hwq0).trans hSx.2.2.2.1, (hy1.cell (p := ⟨w.heap.size, 1, none⟩) hwq0).trans hSx.2.2.2.2.1, bthen hSx.2.2.2.2.2 hy1 (Nat.le_refl _)⟩) (fun hSy => ?_)
                clear hSx hK K
                have hSx := hSy; clear hSy
                try simp only [Act.put, List.getElem_toArray, List.getElem_cons_zero, List.getElem_cons_succ, List.setIfInBounds_toArray, List.set_cons_zero, List.set_cons_succ]
                refine wpAnyH_take (i := 13) (v := ?_) rfl (by kernel_rfl) (by kernel_rfl) (by kernel_rfl) (fun _ _ _ h => h) (Or.inl ⟨by rfl, ?_⟩) (by assumption) ?_
                rotate_left
                · intro w _; go_simp; try with_reducible rfl
                try simp only [Act.put, List.getElem_toArray, List.getElem_cons_zero, List.getElem_cons_succ, List.setIfInBounds_toArray, List.set_cons_zero, List.set_cons_succ]
                refine wpAnyH_take (i := 14) (v := ?_) rfl (by kernel_rfl) (by kernel_rfl) (by kernel_rfl) (fun _ _ _ h => h) (Or.inl ⟨by rfl, ?_⟩) (by assumption) ?_
                rotate_left
                · intro w _; go_simp; try with_reducible rfl
                try simp only [Act.put, List.getElem_toArray, List.getElem_cons_zero, List.getElem_cons_succ, List.setIfInBounds_toArray, List.set_cons_zero, List.set_cons_succ]
                refine wpAnyH_take (i := 15) (v := ?_) rfl (by kernel_rfl) (by kernel_rfl) (by kernel_rfl) (fun _ _ _ h => h) (Or.inl ⟨by rfl, ?_⟩) (by assumption) ?_
                rotate_left
                · intro w _; go_simp; try with_reducible rfl
                try simp only [Act.put, List.getElem_toArray, List.getElem_cons_zero, List.getElem_cons_succ, List.setIfInBounds_toArray, List.set_cons_zero, List.set_cons_succ]
                refine wpAnyH_take (i := 16) (v := ?_) rfl (by kernel_rfl) (by kernel_rfl) (by kernel_rfl) (fun _ _ _ h => h) (Or.inl ⟨by rfl, ?_⟩) (by assumption) ?_
                rotate_left
                · intro w _; go_simp; try with_reducible rfl
                try simp only [Act.put, List.getElem_toArray, List.getElem_cons_zero, List.getElem_cons_succ, List.setIfInBounds_toArray, List.set_cons_zero, List.set_cons_succ]
                refine wpAnyH_take (i := 17) (v := ?_) rfl (by kernel_rfl) (by kernel_rfl) (by kernel_rfl) (fun _ _ _ h => h) (Or.inl ⟨by rfl, ?_⟩) (by assumption) ?_
                rotate_left
                · intro w _; go_simp; try with_reducible rfl
                try simp only [Act.put, List.getElem_toArray, List.getElem_cons_zero, List.getElem_cons_succ, List.setIfInBounds_toArray, List.set_cons_zero, List.set_cons_succ]
                refine wpAnyH_take (i := 18) (v := ?_) rfl (by kernel_rfl) (by kernel_rfl) (by kernel_rfl) (fun _ _ _ h => h) (Or.inl ⟨by rfl, ?_⟩) (by assumption) ?_
                rotate_left
                · intro w _; go_simp; try with_reducible rfl
                try simp only [Act.put, List.getElem_toArray, List.getElem_cons_zero, List.getElem_cons_succ, List.setIfInBounds_toArray, List.set_cons_zero, List.set_cons_succ]
                refine wpAnyH_take (i := 19) (v := ?_) rfl (by kernel_rfl) (by kernel_rfl) (by kernel_rfl) (fun _ _ _ h => h) (Or.inl ⟨by rfl, ?_⟩) (by assumption) ?_
                rotate_left
                · intro w _; go_simp; try with_reducible rfl
                try simp only [Act.put, List.getElem_toArray, List.getElem_cons_zero, List.getElem_cons_succ, List.setIfInBounds_toArray, List.set_cons_zero, List.set_cons_succ]
                refine wpAnyH_take (i := 20) (v := ?_) rfl (by kernel_rfl) (by kernel_rfl) (by kernel_rfl) (fun _ _ _ h => h) (Or.inl ⟨by rfl, ?_⟩) (by assumption) ?_
                rotate_left
                · intro w hSw; (try dsimp only at hSw); go_simp; try with_reducible rfl
                try simp only [Act.put, List.getElem_toArray, List.getElem_cons_zero, List.getElem_cons_succ, List.setIfInBounds_toArray, List.set_cons_zero, List.set_cons_succ]
                refine wpAnyH_take (i := 21) (v := ?_) rfl (by kernel_rfl) (by kernel_rfl) (by kernel_rfl) (fun _ _ _ h => h) (Or.inl ⟨by rfl, ?_⟩) (by assumption) ?_
                rotate_left
                · intro w _; go_simp; try with_reducible rfl
                try simp only [Act.put, List.getElem_toArray, List.getElem_cons_zero, List.getElem_cons_succ, List.setIfInBounds_toArray, List.set_cons_zero, List.set_cons_succ]
                refine wpAnyH_take (i := 22) (v := ?_) rfl (by kernel_rfl) (by kernel_rfl) (by kernel_rfl) (fun _ _ _ h => h) (Or.inl ⟨by rfl, ?_⟩) (by assumption) ?_
                rotate_left
                · intro w _; go_simp; try with_reducible rfl
                try simp only [Act.put, List.getElem_toArray, List.getElem_cons_zero, List.getElem_cons_succ, List.setIfInBounds_toArray, List.set_cons_zero, List.set_cons_succ]
                refine wpAnyH_take (i := 23) (v := ?_) rfl (by kernel_rfl) (by kernel_rfl) (by kernel_rfl) (fun _ _ _ h => h) (Or.inl ⟨by rfl, ?_⟩) (by assumption) ?_
                rotate_left
                · intro w _; go_simp; try with_reducible rfl
                try simp only [Act.put, List.getElem_toArray, List.getElem_cons_zero, List.getElem_cons_succ, List.setIfInBounds_toArray, List.set_cons_zero, List.set_cons_succ]
                refine wpAnyH_done (by kernel_rfl) ?_ _
                have hBy := hide (bthen hBq hSx.2.2.2.2.2 (by omega))
                have hsy := hSx.2.2.2.2.2.size
                clear hSx hy1
                go_wp2_with fail
                go_roundw
                case rel => exact ⟨i + 1, p, by omega, by go_num, rfl, hide (pick_no HP.out HE_r.out Hd.out (by simp [canB, q1, q3])), by omega, by omega, hBy.out⟩
                case measure => simp [intOf]; omega
          · go_wp2_with fail
            go_quiet (fail)
            go_wp2_with fail
            go_roundw
            case rel => exact ⟨i + 1, p, by omega, by go_num, rfl, hide (pick_no HP.out HE_r.out Hd.out (by simp [canB])), by omega, by omega, (by repeat' (first | (with_reducible exact Below.refl _ _) | (with_reducible assumption) | (with_reducible refine bdrawn ?_ _) | (with_reducible refine Below.alloc ?_ ?_ _) | (with_reducible refine Below.drew ?_) | (with_reducible refine Below.setCell ?_ ?_ _) | go_size))⟩
            case measure => simp [intOf]; omega
        · obtain rfl : i = n := by omega
          have HPS := hide (show pickS rs zs l j = p by unfold pickS; rw [HD.out, ← HX.out, HO.out, HL.out]; exact HP.out)
          have hBw := bthen HBX.out hBq (by omega)
          have HWq := hide (own_below HWX.out hBq (fun q hq => (HWX.out.lt q hq).2))
          have HSq := hide (own_below HSX.out hBq (fun q hq => (HSX.out.lt q hq).2))
          have HEq := hide ((hBq.block _ (by omega)).trans HEX.out)
          have hgw := hide (HWq.out.lt go rfl)
          have hswr : w.heap.size + 2 < wr.heap.size := by omega
          clear hBq HP HWX HSX HEX
          by_cases hneg : p < 0
          · have HR := hide (runS_no HPS.out hneg)
            have hBs : Below w.heap.size w wr := hBw
            clear hBw
            go_wp2_with (at_builtin; refine wpList_append_lies _ rfl _ _ 46 rfl (w.heap.size + 1) 3 i0_int (.int .i64 0) 1 8 Try.underlying46 hi_int hz0_int hz1_int hz2_int rfl (by decide) _ _ _ rfl (HWq.out.alloc _) ⟨wr.heap.size, 0, none⟩ 1 1 [.int .i64 p] rfl rfl ?c1q ?c2q (by decide) ?c3q ?c4q ?c5q (wr.heap.size + 1) ?c6q ?_)
            (try case c1q => exact news_at_of _ _ _ (by go_size))
            (try case c2q => first | exact List.all_eq_true.1 rfl | rfl)
            (try case c3q => (unfold maxLen; omega))
            (try case c4q => omega)
            (try case c5q => (first | go_size | (simp; omega)))
            (try case c6q => simp)
            intro gq cq wq hownq hgq hatq hltq
            obtain ⟨hBq, hsq⟩ := below_app hBs HWq.out (by omega) (by omega) hgq
            have HGq := hide hgq; clear hgq
            have HW2 := hide hownq
            have HS2 := hide ((HSq.out.alloc (.cells #[.int .i64 p] 3)).kept HGq.out (.inr (by intro e; simp [Value.ownBlock] at e; omega)))
            have HE2 := hide (app_block HWq.out HGq.out (by omega) (by omega) HEq.out)
            have hgq2 : ¬ gq = w.heap.size + 2 := by rcases hatq with h | h; (simp [Value.ownBlock] at h; omega); omega
            clear hatq hltq hownq HWq HSq HEq HGq
            have d0 := cell_blk HE2.out 0; have d1 := cell_blk HE2.out 1
            have hsq9 : w.heap.size < wq.heap.size := by omega
            go_wp2_with fail
            go_roundw
            case rel => exact ⟨j + 1, gq, _, x + l, by omega, rfl, hide (by rw [mul_step, ← HX.out]), by omega, by omega, rfl, hgq2, hide (by rw [HR.out, List.map_append]; exact HW2.out), hide (by rw [HR.out, HD.out]; exact HS2.out), hBq, by omega, HE2⟩
            case measure => simp [intOf]; omega
          · obtain ⟨m0, rfl⟩ := Int.eq_ofNat_of_zero_le (show 0 ≤ p by omega)
            have HR := hide (runS_yes HPS.out)
            obtain ⟨d, hd⟩ : ∃ d, ds[m0]? = some d := ⟨_, List.getElem?_eq_getElem (by rw [HDL.out]; omega)⟩
            have s0 : wr.cell? ⟨w.heap.size + 2, m0, none⟩ = some (.bool d) := (HSq.out.cellAt m0 (by omega)).trans (by rw [List.getElem?_map, hd]; rfl)
            have sf : wr.frozen? ⟨w.heap.size + 2, m0, none⟩ = false := HSq.out.frozenAt m0
            have hst := HSq.out.stored m0 (.bool true)
            have HST := hide (show (wr.setCell ⟨w.heap.size + 2, m0, none⟩ (.bool true)).ownsRow (w.heap.size + 2) 4 1 (.slice (some ⟨w.heap.size + 2, 0, none⟩) i i) i ((ds.set m0 true).map .bool) by rw [List.map_set]; exact hst.1)
            have HWs := hide (own_set_offS (g := w.heap.size + 2) (o := m0) HWq.out (fun q hq => by simp [Value.ownBlock] at hq; omega) (.bool true))
            have HEs := hide (show (wr.setCell ⟨w.heap.size + 2, m0, none⟩ (.bool true)).heap[w.heap.size]? = some (.cells #[.slice a1 n1 c1, .int .i64 l] 48 (0, 0)) by rw [heap_set_other _ _ _ _ _ (by omega)]; exact HEq.out)
            have hBs : Below w.heap.size w (wr.setCell ⟨w.heap.size + 2, m0, none⟩ (.bool true)) := (by repeat' (first | (with_reducible exact Below.refl _ _) | (with_reducible assumption) | (with_reducible refine bdrawn ?_ _) | (with_reducible refine Below.alloc ?_ ?_ _) | (with_reducible refine Below.drew ?_) | (with_reducible refine Below.setCell ?_ ?_ _) | go_size))
            have hss : wr.heap.size ≤ (wr.setCell ⟨w.heap.size + 2, m0, none⟩ (.bool true)).heap.size ∧ (wr.setCell ⟨w.heap.size + 2, m0, none⟩ (.bool true)).heap.size ≤ wr.heap.size := by simp
            have hss1 := hss.1; have hss2 := hss.2
            clear hd hst hss HSq HWq HEq hBw
            have i1 : (m0 : Int) < (i : Int) := by omega
            go_wp2_with (at_builtin; refine wpList_append_lies _ rfl _ _ 46 rfl (w.heap.size + 1) 3 i0_int (.int .i64 0) 1 8 Try.underlying46 hi_int hz0_int hz1_int hz2_int rfl (by decide) _ _ _ rfl (HWs.out.alloc _) ⟨wr.heap.size, 0, none⟩ 1 1 [.int .i64 m0] rfl rfl ?c1p ?c2p (by decide) ?c3p ?c4p ?c5p (wr.heap.size + 1) ?c6p ?_)
            (try case c1p => exact news_at_of _ _ _ (by go_size))
            (try case c2p => first | exact List.all_eq_true.1 rfl | rfl)
            (try case c3p => (unfold maxLen; omega))
            (try case c4p => omega)
            (try case c5p => (first | go_size | (simp; omega)))
            (try case c6p => simp)
            intro gp cp wp hownp hgp hatp hltp
            obtain ⟨hBp, hsp⟩ := below_app hBs HWs.out (by omega) (by omega) hgp
            have HGp := hide hgp; clear hgp
            have HW2 := hide hownp
            have HS2 := hide ((HST.out.alloc (.cells #[.int .i64 m0] 3)).kept HGp.out (.inr (by intro e; simp [Value.ownBlock] at e; omega)))
            have HE2 := hide (app_block HWs.out HGp.out (by omega) (by omega) HEs.out)
            have hgp2 : ¬ gp = w.heap.size + 2 := by rcases hatp with h | h; (simp [Value.ownBlock] at h; omega); omega
            clear hatp hltp hownp HWs HST HEs HGp
            have d0 := cell_blk HE2.out 0; have d1 := cell_blk HE2.out 1
            have hsq9 : w.heap.size < wp.heap.size := by omega
            go_wp2_with fail
            go_roundw
            case rel => exact ⟨j + 1, gp, _, x + l, by omega, rfl, hide (by rw [mul_step, ← HX.out]), by omega, by omega, rfl, hgp2, hide (by rw [HR.out, List.map_append]; exact HW2.out), hide (by rw [HR.out, HD.out]; exact HS2.out), hBp, by omega, HE2⟩
            case measure => simp [intOf]; omega
    · have hjN : N = j := by
        have h1 := (HIFF.out j)
        rw [← HX.out] at h1
        have : ¬ j < N := fun h => hlt (h1.2 h)
        omega
      subst hjN
      go_wp2_with fail
      go_ret
      exact ⟨_, _, rfl, own_base HW.out (by omega), hB⟩
end Go.Proofs.Ytahfbhfmhccgoaa
