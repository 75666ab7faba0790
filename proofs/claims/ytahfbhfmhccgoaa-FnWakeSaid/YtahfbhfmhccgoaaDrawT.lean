/- The drawn place of a geometry (DrawA without the array texts). -/
import Derived.Test.YtahfbhfmhccgoaaPlaces
import Derived.Test.YtahfbhfmhccgoaaAddrT
import Derived.Test.YtahfbhfmhccgoaaDrawGeo
set_option linter.unusedSimpArgs false
set_option linter.unusedVariables false
namespace Go.Proofs.Ytahfbhfmhccgoaa
open Go.RowKit Go.ChangeShapes Go.WideShapes Go.ChangeAt Go.Joins Go.Deep
open Go.ChangeMaps (open_string shut_string)
theorem only_undrew {y z : World} {r : Option Nat} (hg : (World.drew y).grownBy z r) : y.grownBy z r := ⟨hg.os, hg.tape, hg.output, hg.size, hg.block⟩
theorem spec_BankCount_cur (w0 : World) (a : Option Addr) (n c b : Nat) (g : Ge) (v : Int) (w : World) (hv : bankCnt g = v) (hC : Cur w0 a n c b w) :
    Calls Try.prog 122 #[.agg #[.int .i64 g.gr, .int .i64 g.bk, .int .i64 g.rw, .int .i64 g.cl]] w fun e w' => e = .returned (.int .i64 v) ∧ Cur w0 a n c b w' ∧ w.grownBy w' (some b) :=
  (spec_BankCount_is g v hv w).mono fun e w' ⟨h1, h2⟩ => ⟨h1, hC.below h2, only_of_below h2 _⟩
def DrewAd (w0 : World) (a : Option Addr) (n c b : Nat) (g : Ge) (w : World) (e : Ending) (w' : World) : Prop :=
  ∃ x : Ad, adOk g x = true ∧ e = .returned (.agg #[.int .i64 x.b, .int .i64 x.r, .int .i64 x.c]) ∧ Cur w0 a n c b w' ∧ w.grownBy w' (some b)
set_option maxRecDepth 100000 in
set_option maxHeartbeats 2000000 in
theorem spec_l03Addr (w0 : World) (a : Option Addr) (n c b : Nat) (bs : List Int) (g : Ge) (w : World) (hg : geoOk g = true) (ha : IsInts .u8 w0 a n c bs) (hs : n ≤ 1048576) (hC0 : Cur w0 a n c b w) :
    Calls Try.prog 136 #[.pointer (some ⟨b, 0, none⟩), .agg #[.int .i64 g.gr, .int .i64 g.bk, .int .i64 g.rw, .int .i64 g.cl]] w (DrewAd w0 a n c b g w) := by
  have HA := hide ha
  clear ha
  have hlb := hC0.lt
  have hwb : w0.heap.size ≤ b := by obtain ⟨_, _, _, _, _, h⟩ := hC0; exact h
  obtain ⟨bc, hbc⟩ : ∃ bc, bankCnt g = bc := ⟨_, rfl⟩
  have hbd : 1 ≤ bc ∧ bc ≤ 8 := by rw [← hbc]; unfold bankCnt; rw [if_pos hg]; exact bank_bd hg
  have hb1 := hbd.1; have hb2 := hbd.2
  obtain ⟨_, _, _, _, g5, g6, g7, g8⟩ := geoOk_bd hg
  have HBC := hide hbc; have HG := hide hg
  clear hbd hbc hg
  go_enter Try.func136, Try.ntmps136
  go_wp2_with fail
  have k0 : ((w.alloc (.cells #[.int .i64 g.gr, .int .i64 g.bk, .int .i64 g.rw, .int .i64 g.cl] 43)).alloc (.cells #[.int .i64 0, .int .i64 0, .int .i64 0] 138)).heap[w.heap.size]? = some (.cells #[.int .i64 g.gr, .int .i64 g.bk, .int .i64 g.rw, .int .i64 g.cl] 43 (0, 0)) := by rw [alloc_lt _ _ _ (by simp)]; exact alloc_at _ _ _ rfl
  have k1 : ((w.alloc (.cells #[.int .i64 g.gr, .int .i64 g.bk, .int .i64 g.rw, .int .i64 g.cl] 43)).alloc (.cells #[.int .i64 0, .int .i64 0, .int .i64 0] 138)).heap[w.heap.size + 1]? = some (.cells #[.int .i64 0, .int .i64 0, .int .i64 0] 138 (0, 0)) := alloc_at _ _ _ (by simp)
  have HC := hide ((hC0.alloc (.cells #[.int .i64 g.gr, .int .i64 g.bk, .int .i64 g.rw, .int .i64 g.cl] 43)).alloc (.cells #[.int .i64 0, .int .i64 0, .int .i64 0] 138))
  have HGW : w.grownBy ((w.alloc (.cells #[.int .i64 g.gr, .int .i64 g.bk, .int .i64 g.rw, .int .i64 g.cl] 43)).alloc (.cells #[.int .i64 0, .int .i64 0, .int .i64 0] 138)) (some b) := only_alloc (only_alloc (only_refl w (some b)) _) _
  have hsz : w.heap.size + 2 ≤ ((w.alloc (.cells #[.int .i64 g.gr, .int .i64 g.bk, .int .i64 g.rw, .int .i64 g.cl] 43)).alloc (.cells #[.int .i64 0, .int .i64 0, .int .i64 0] 138)).heap.size := by simp
  generalize ((w.alloc (.cells #[.int .i64 g.gr, .int .i64 g.bk, .int .i64 g.rw, .int .i64 g.cl] 43)).alloc (.cells #[.int .i64 0, .int .i64 0, .int .i64 0] 138)) = W at *
  have e0 := cell_blk k0 0; have e1 := cell_blk k0 1; have e2 := cell_blk k0 2; have e3 := cell_blk k0 3
  have d0 := cell_blk k1 0; have d1 := cell_blk k1 1; have d2 := cell_blk k1 2; have df := fun o => free_blk k1 o
  clear k0 k1 hC0
  go_region_held3 (fun v => v.cell? ⟨w.heap.size, 0, none⟩ = some (.int .i64 g.gr) ∧ v.cell? ⟨w.heap.size, 1, none⟩ = some (.int .i64 g.bk) ∧ v.cell? ⟨w.heap.size, 2, none⟩ = some (.int .i64 g.rw) ∧ v.cell? ⟨w.heap.size, 3, none⟩ = some (.int .i64 g.cl)) (first | go_keep | simp [go_sem, *]) (first | (go_at_call 122; refine (spec_BankCount_cur w0 a n c b g bc _ HBC.out HC.out.drew).mono ?_; rintro e v1 ⟨rfl, hC1, h1⟩; have s1 := h1.size; (try simp only [World.size_drew] at s1); have q1 := fun o => only_cell h1 (b := w.heap.size) (o := o) (by first | omega | (simp only [World.size_drew]; omega)) (by omega); have f1 := fun o => only_free h1 (b := w.heap.size + 1) (o := o) (by first | omega | (simp only [World.size_drew]; omega)) (by omega); have g1 := fun o => only_cell h1 (b := w.heap.size + 1) (o := o) (by first | omega | (simp only [World.size_drew]; omega)) (by omega)) | (go_at_call 64; first | ((with_reducible refine (spec_l01Below w0 a n c b bs _ bc HA.out hs (by omega) hC1).mono ?_); rintro e v2 ⟨x, x0, x1, rfl, hCx, hx⟩; have sx := hx.size; (try simp only [World.size_drew] at sx); have qx := fun o => only_cell hx (b := w.heap.size) (o := o) (by first | omega | (simp only [World.size_drew]; omega)) (by omega); have fx := fun o => only_free hx (b := w.heap.size + 1) (o := o) (by first | omega | (simp only [World.size_drew]; omega)) (by omega); have gx := fun o => only_cell hx (b := w.heap.size + 1) (o := o) (by first | omega | (simp only [World.size_drew]; omega)) (by omega)) | ((with_reducible refine (spec_l01Below w0 a n c b bs _ g.rw HA.out hs (by omega) hCx).mono ?_); rintro e v3 ⟨y, y0, y1, rfl, hCy, hy⟩; have sy := hy.size; (try simp only [World.size_drew] at sy); have qy := fun o => only_cell hy (b := w.heap.size) (o := o) (by first | omega | (simp only [World.size_drew]; omega)) (by omega); have fy := fun o => only_free hy (b := w.heap.size + 1) (o := o) (by first | omega | (simp only [World.size_drew]; omega)) (by omega); have gy := fun o => only_cell hy (b := w.heap.size + 1) (o := o) (by first | omega | (simp only [World.size_drew]; omega)) (by omega)) | ((with_reducible refine (spec_l01Below w0 a n c b bs _ g.cl HA.out hs (by omega) hCy).mono ?_); rintro e v4 ⟨z, z0, z1, rfl, hCz, hz⟩; have sz := hz.size; (try simp only [World.size_drew] at sz); have qz := fun o => only_cell hz (b := w.heap.size) (o := o) (by first | omega | (simp only [World.size_drew]; omega)) (by omega); have fz := fun o => only_free hz (b := w.heap.size + 1) (o := o) (by first | omega | (simp only [World.size_drew]; omega)) (by omega); have gz := fun o => only_cell hz (b := w.heap.size + 1) (o := o) (by first | omega | (simp only [World.size_drew]; omega)) (by omega))))
  go_wp2_with fail
  refine bodyPost_ret (by simp [results, Try.results136, go_sem, *]; try rfl) rfl ?_
  exact ⟨⟨x, y, z⟩, by simp only [adOk, HBC.out, Bool.and_eq_true, btw_true]; omega, rfl, ((hCz.set (g := w.heap.size + 1) (.inl (by omega)) _).set (g := w.heap.size + 1) (.inl (by omega)) _).set (g := w.heap.size + 1) (.inl (by omega)) _, only_setCell (only_setCell (only_setCell (only_trans (only_trans (only_trans (only_trans HGW (only_undrew h1)) hx) hy) hz) (.inr (by omega)) _) (.inr (by omega)) _) (.inr (by omega)) _⟩
end Go.Proofs.Ytahfbhfmhccgoaa
