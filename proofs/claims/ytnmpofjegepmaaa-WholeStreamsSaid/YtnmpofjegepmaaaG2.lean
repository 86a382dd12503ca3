/- guard.Clean. -/
import Derived.Test.YtnmpofjegepmaaaG1
namespace Go.Proofs.Ytnmpofjegepmaaa
open Go.RowKit Go.Proofs.Ytnmpofjegepmaaa.Fl Go.Proofs.Ytnmpofjegepmaaa.Pt

/-- How many parts were changed. -/
def clN (f c m : Bool) (a : C) : Nat := (if clB f c m a.1 then 1 else 0) + (if clB f c m a.2 then 1 else 0)
def clC (f c m : Bool) (a : C) : C := (clF f c m a.1, clF f c m a.2)

theorem rt3 {v : Value} {a b : Int} (h : a = b) : Ending.returned (.tuple #[v, .int .i64 a]) = Ending.returned (.tuple #[v, .int .i64 b]) := by rw [h]

set_option linter.unusedSimpArgs false in
set_option maxHeartbeats 1000000 in
set_option maxRecDepth 100000 in
theorem cleanc_any (f c m : Bool) (a b : Nat) (ha : a < 18446744073709551616) (hb : b < 18446744073709551616) (w : World) :
    Calls Try.prog 28 #[.agg #[.bool f, .bool c, .bool m], .complex .f64 a b] w fun e w' => e = .returned (.tuple #[.complex .f64 (clF f c m a) (clF f c m b), .int .i64 ((clN f c m (a, b) : Nat) : Int)]) ∧ But [] w w' := by
  obtain ⟨w1, hw1, hb1, d0, d1, d2⟩ : ∃ w1, w.alloc (.cells #[.bool f, .bool c, .bool m] 57) = w1 ∧ But [] w w1 ∧ w1.cell? ⟨w.heap.size, 0, none⟩ = some (.bool f) ∧ w1.cell? ⟨w.heap.size, 1, none⟩ = some (.bool c) ∧ w1.cell? ⟨w.heap.size, 2, none⟩ = some (.bool m) :=
    ⟨_, rfl, (But.refl _ _).alloc _, by simp [go_sem], by simp [go_sem], by simp [go_sem]⟩
  go_enter Try.func28, Try.ntmps28
  go_wp2_with fail
  refine (clean_any f c m a ha _).mono ?_
  rintro e w2 ⟨rfl, hb2⟩
  have e0 := hb2.cell d0 (by simp)
  have e1 := hb2.cell d1 (by simp)
  have e2 := hb2.cell d2 (by simp)
  clear hw1 d0 d1 d2
  go_wp2_with fail
  refine (clean_any f c m b hb _).mono ?_
  rintro e w3 ⟨rfl, hb3⟩
  clear e0 e1 e2
  have tot := (hb1.trans hb2).trans hb3
  generalize hx : clB f c m a = x
  generalize hy : clB f c m b = y
  have HX := Lib.hid hx
  have HY := Lib.hid hy
  clear hx hy
  obtain ⟨w4, hw4, hb4, d0, d1⟩ : ∃ w4, w3.alloc (.cells #[.bool x, .bool y] 4) = w4 ∧ But [] w3 w4 ∧ w4.cell? ⟨w3.heap.size, 0, none⟩ = some (.bool x) ∧ w4.cell? ⟨w3.heap.size, 1, none⟩ = some (.bool y) :=
    ⟨_, rfl, (But.refl _ _).alloc _, by simp [go_sem], by simp [go_sem]⟩
  have HW4 := Lib.hid hw4
  clear hw4 hb1 hb2 hb3
  go_wp2_with fail
  rw [HW4.out]
  clear HW4
  refine wp_loop_rounds 3 ?_
  rw [rounds_succ]
  cases x <;> cases y
  all_goals
    go_wp2_with fail
    rw [rounds_succ]
    go_wp2_with fail
    rw [rounds_succ]
    go_wp2_with fail
    go_ret2
    refine ⟨rt3 ?_, tot.trans hb4⟩
    unfold clN
    simp only [HX.out, HY.out]
    rfl
end Go.Proofs.Ytnmpofjegepmaaa
