/- quaverref19.DocClean. -/
import Derived.Test.YtnmpofjegepmaaaG6
namespace Go.Proofs.Ytnmpofjegepmaaa
open Go.RowKit Go.Proofs.Ytnmpofjegepmaaa.Fl Go.Proofs.Ytnmpofjegepmaaa.Pt

def clI (f c m : Bool) (b : Nat) : Nat := if clB f c m b then 1 else 0
theorem cls_bits (b : Nat) (hb : b < 18446744073709551616) : (cls b = 4 ↔ b / 4503599627370496 % 2048 = 2047 ∧ b % 4503599627370496 ≠ 0) ∧ (cls b = 3 ↔ b / 4503599627370496 % 2048 = 2047 ∧ b % 4503599627370496 = 0) ∧ (cls b = 1 ↔ b / 4503599627370496 % 2048 = 0 ∧ b % 4503599627370496 ≠ 0) ∧ sgw b = b / 9223372036854775808 * 9223372036854775808 := by
  unfold cls sgw
  simp only [SG, ON, INF]
  refine ⟨?_, ?_, ?_, ?_⟩
  all_goals (repeat' split)
  all_goals omega
theorem rti {a b : Nat} {x y : Int} (h : a = b) (k : x = y) : Ending.returned (.tuple #[.float .f64 a, .int .i64 x]) = Ending.returned (.tuple #[.float .f64 b, .int .i64 y]) := by rw [h, k]

set_option maxHeartbeats 1000000 in
theorem rpart_any (f c m : Bool) (b : Nat) (hb : b < 18446744073709551616) (w : World) :
    Calls Try.prog 76 #[.agg #[.bool f, .bool c, .bool m], .float .f64 b] w fun e w' => e = .returned (.tuple #[.float .f64 (clF f c m b), .int .i64 ((clI f c m b : Nat) : Int)]) ∧ But [] w w' := by
  obtain ⟨w1, hw1, hb1, d0, d1, d2⟩ : ∃ w1, w.alloc (.cells #[.bool f, .bool c, .bool m] 57) = w1 ∧ But [] w w1 ∧ w1.cell? ⟨w.heap.size, 0, none⟩ = some (.bool f) ∧ w1.cell? ⟨w.heap.size, 1, none⟩ = some (.bool c) ∧ w1.cell? ⟨w.heap.size, 2, none⟩ = some (.bool m) :=
    ⟨_, rfl, (But.refl _ _).alloc _, by simp [go_sem], by simp [go_sem], by simp [go_sem]⟩
  have HK := Lib.hid (cls_bits b hb)
  cases f <;> cases c <;> cases m
  all_goals
    go_enter Try.func76, Try.ntmps76
    go_wp2_with fail
  all_goals
    go_ret2
    obtain ⟨k4, k3, k1, ks⟩ := HK.out
    refine ⟨rti ?_ ?_, hb1⟩
    · unfold clF; (try simp only [Bool.false_eq_true, if_false, if_true]); (repeat' split) <;> omega
    · unfold clI clB; (try simp only [Bool.false_eq_true, if_false, if_true]); (repeat' split) <;> (first | omega | simp_all)

theorem clN_clI (f c m : Bool) (a : C) : clN f c m a = clI f c m a.1 + clI f c m a.2 := by unfold clN clI; split <;> split <;> rfl
theorem rtc {a b c d : Nat} {x y : Int} (h : a = b) (h2 : c = d) (k : x = y) : Ending.returned (.tuple #[.complex .f64 a c, .int .i64 x]) = Ending.returned (.tuple #[.complex .f64 b d, .int .i64 y]) := by rw [h, h2, k]

set_option maxHeartbeats 1000000 in
theorem rdoc_any (f c m : Bool) (a b : Nat) (ha : a < 18446744073709551616) (hb : b < 18446744073709551616) (w : World) :
    Calls Try.prog 29 #[.agg #[.bool f, .bool c, .bool m], .complex .f64 a b] w fun e w' => e = .returned (.tuple #[.complex .f64 (clF f c m a) (clF f c m b), .int .i64 ((clN f c m (a, b) : Nat) : Int)]) ∧ But [] w w' := by
  obtain ⟨w1, hw1, hb1, d0, d1, d2⟩ : ∃ w1, w.alloc (.cells #[.bool f, .bool c, .bool m] 57) = w1 ∧ But [] w w1 ∧ w1.cell? ⟨w.heap.size, 0, none⟩ = some (.bool f) ∧ w1.cell? ⟨w.heap.size, 1, none⟩ = some (.bool c) ∧ w1.cell? ⟨w.heap.size, 2, none⟩ = some (.bool m) :=
    ⟨_, rfl, (But.refl _ _).alloc _, by simp [go_sem], by simp [go_sem], by simp [go_sem]⟩
  have l1 : ∀ x, clI f c m x ≤ 1 := fun x => by unfold clI; split <;> omega
  have l2 := l1 a
  have l3 := l1 b
  clear l1
  go_enter Try.func29, Try.ntmps29
  go_wp2_with fail
  refine (rpart_any f c m a ha _).mono ?_
  rintro e w2 ⟨rfl, hb2⟩
  have e0 := hb2.cell d0 (by simp)
  have e1 := hb2.cell d1 (by simp)
  have e2 := hb2.cell d2 (by simp)
  clear d0 d1 d2
  go_wp2_with fail
  refine (rpart_any f c m b hb _).mono ?_
  rintro e w3 ⟨rfl, hb3⟩
  have t1 : IntKind.i64.wrap ((clI f c m a : Int) + (clI f c m b : Int)) = (clI f c m a : Int) + (clI f c m b : Int) := IntWalk.i64_in _ (by omega)
  go_wp2_with fail
  go_ret2
  exact ⟨rtc rfl rfl (by rw [clN_clI]; simp), (hb1.trans hb2).trans hb3⟩

end Go.Proofs.Ytnmpofjegepmaaa
