/- (*Cascade).Run. -/
import Derived.Test.YtnmpofjegepmaaaC4
import Derived.Deep.OwnRows
namespace Go.Proofs.Ytnmpofjegepmaaa
open Go.RowKit Go.Proofs.Ytnmpofjegepmaaa.Fl

theorem Try.info25 : (Try.prog.info? 25).map (fun i => (i.zero, i.size, i.bytes)) = some (some (.complex .f64 0 0), 1, 16) := by kernel_rfl
def Z0 : C := (0, 0)
theorem cv_z0 : CV (some (.complex .f64 0 0)) Z0 := ⟨(0, 0), rfl, by simp [wf], by decide⟩
theorem cv_zero {z : Array Value} (hz : z = #[.complex .f64 0 0] ∨ z = #[.complex .f64 0 0, .complex .f64 0 0]) {n j : Nat} (hj : j < n) : CV (madeCells z n)[j]? Z0 := by
  have h : (madeCells z n)[j]? = some (z[j % z.size]!) := by simp [madeCells, hj]
  rw [h]
  rcases hz with rfl | rfl
  · have : j % 1 = 0 := by omega
    simp [this]; exact cv_z0
  · have : j % 2 = 0 ∨ j % 2 = 1 := by omega
    rcases this with h | h <;> simp [h] <;> exact cv_z0
theorem zeros_oc (w : World) (t n : Nat) {z : Array Value} (hz : z = #[.complex .f64 0 0] ∨ z = #[.complex .f64 0 0, .complex .f64 0 0]) : OC (w.alloc (.cells (madeCells z n) t)) w.heap.size t n (fun _ => Z0) :=
  ⟨_, heap_alloc_new _ _, by simp [size_madeCells], fun _ hj => cv_zero hz hj⟩

set_option maxHeartbeats 4000000 in
set_option maxRecDepth 100000 in
theorem crun_any (c p q n lb lo m mk : Nat) (A : Option Addr) (hA : (m = 0) ∨ (0 < m ∧ A = some ⟨lb, lo, none⟩)) (hm : m ≤ 17592186044416) (g : C) (xs : Nat → C) (Sc St : Nat → C) (w : World) (hxs : RC w lb lo m xs) (hlq : lb ≠ q) (h : Cas w c p q n g Sc St) :
    Calls Try.prog 18 #[.pointer (some ⟨c, 0, none⟩), .slice A m mk] w fun e w' => e = .returned (.slice (some ⟨w.heap.size, 0, none⟩) m m) ∧ But [q] w w' ∧ OC w' w.heap.size 25 m (Ys n g Sc St xs) ∧ Cas w' c p q n g Sc (Ss n g Sc St xs m) := by
  have hmk := run_make_row' (P := Try.prog) 34 25 (.complex .f64 0 0) 16 Try.underlying34 Try.info25 rfl .i64 .i64 m (by omega) (by omega)
  have hqs := h.ql
  have hcs := h.cl
  have hps := h.pl
  rcases hA with rfl | ⟨hm0, rfl⟩
  · simp only [Int.natCast_zero] at hmk
    have HZ0 : OC (w.alloc (Obj.cells (madeCells #[Value.complex FloatKind.f64 0 0] 0) 25)) w.heap.size 25 0 (Ys n g Sc St xs) := (zeros_oc w 25 0 (.inl rfl)).congr fun j hj => by omega
    have HB0 : But [q] w (w.alloc (Obj.cells (madeCells #[Value.complex FloatKind.f64 0 0] 0) 25)) := (But.refl _ _).alloc _
    have HC0 : Cas (w.alloc (Obj.cells (madeCells #[Value.complex FloatKind.f64 0 0] 0) 25)) c p q n g Sc (Ss n g Sc St xs 0) := h.keep ((But.refl [] w).alloc _) (by simp) (by simp) (by simp)
    go_enter Try.func18, Try.ntmps18
    go_wp2
    refine wp_loop_rounds 1 ?_
    rw [rounds_succ]
    go_wp2
    go_ret
    exact ⟨rfl, HB0, HZ0, HC0⟩
  · go_enter Try.func18, Try.ntmps18
    go_wp2
    have HZ := zeros_oc w 25 m (.inl rfl)
    have HB0 : But [q] w (w.alloc (Obj.cells (madeCells #[Value.complex FloatKind.f64 0 0] m) 25)) := (But.refl _ _).alloc _
    go_loopw [15] (fun i wr => ∃ k : Nat, k ≤ m ∧ i = .int .i64 k ∧ But [q] w wr ∧ OC wr w.heap.size 25 m (fun j => if j < k then Ys n g Sc St xs j else Z0) ∧ Cas wr c p q n g Sc (Ss n g Sc St xs k)) (fun i _ => m - (intOf i).toNat)
    case atStart => exact ⟨0, Nat.zero_le _, rfl, HB0, HZ.congr fun j _ => by simp, h.keep ((But.refl [] w).alloc _) (by simp) (by simp) (by simp)⟩
    case round =>
      obtain ⟨k, hk, rfl, hbut, hoc, hcas⟩ := hrel
      by_cases hlt : k < m
      · obtain ⟨xr, hxr, _, hxc⟩ := (hxs.keep hbut (by simpa using hlq)) k hlt
        unfold V at hxr
        have HX := Lib.hid hxc
        clear hxc
        go_wp2_with (go_at_call 19; refine (cstep c p q n g (xs k) xr Sc (Ss n g Sc St xs k) wr HX.out hcas).mono ?_; rintro e w1 ⟨y, rfl, wy, ey, hb1, hc1⟩; have EY := Lib.hid ey; clear ey; have hoc1 := hoc.keep hb1 (by simp; omega); have fz := hoc1.free k; obtain ⟨z0, hz0, _, _⟩ := hoc1.rc.one k hlt)
        go_roundw
        case rel =>
          refine ⟨k + 1, by omega, by go_num, (hbut.trans hb1).setCell _ _ (.inr (Nat.le_refl _)), (hoc1.set_ k wy EY.out).congr fun j _ => ?_, hc1.keep1 ((But.refl [w.heap.size] w1).setCell _ _ (.inl (by simp))) (by omega) (by omega) (by omega)⟩
          · by_cases e : j = k
            · subst e; simp [Ys]
            · simp only [if_neg e]; congr 1; simp; omega
        case measure => simp [intOf]; omega
      · obtain rfl : m = k := by omega
        go_wp2
        go_ret
        exact ⟨rfl, hbut, hoc.congr fun j hj => by simp [hj], hcas⟩
end Go.Proofs.Ytnmpofjegepmaaa
