/- quavertop.clean: a number that is normal or nought in both parts. -/
import Derived.Test.YtnmpofjegepmaaaG2
namespace Go.Proofs.Ytnmpofjegepmaaa
open Go.RowKit Go.Proofs.Ytnmpofjegepmaaa.Fl Go.Proofs.Ytnmpofjegepmaaa.Pt

theorem abs_any (b : Nat) (hb : b < 18446744073709551616) (w : World) : Calls Try.prog 54 #[.float .f64 b] w fun e w' => e = .returned (.float .f64 (b % 9223372036854775808)) ∧ w' = w := by
  have h1 := andNot_sg b hb
  go_enter Try.func54, Try.ntmps54
  go_wp2
  go_ret
  exact ⟨rf (by omega), rfl⟩
theorem isnan_any (b : Nat) (hb : b < 18446744073709551616) (w : World) : Calls Try.prog 92 #[.float .f64 b] w fun e w' => e = .returned (.bool (nan b)) ∧ w' = w := by
  have h1 := ne_self hb
  go_enter Try.func92, Try.ntmps92
  go_wp2
  go_ret
  exact ⟨rb (by first | rfl | exact h1), rfl⟩
theorem isinf_any (b : Nat) (hb : b < 18446744073709551616) (w : World) : Calls Try.prog 91 #[.float .f64 b, .int .i64 0] w fun e w' => e = .returned (.bool (decide (b % 9223372036854775808 = INF))) ∧ w' = w := by
  have h1 := inf_gt (b := b % 9223372036854775808) (by omega)
  go_enter Try.func91, Try.ntmps91
  go_wp2_with (go_at_call 54; refine (abs_any _ hb _).mono ?_; rintro e w' ⟨rfl, rfl⟩)
  go_ret
  exact ⟨rb (by first | rfl | exact h1), rfl⟩
theorem tplain_any (b : Nat) (hb : b < 18446744073709551616) (hc : cls b ≤ 2) (w : World) : Calls Try.prog 96 #[.float .f64 b] w fun e w' => e = .returned (.bool true) ∧ w' = w := by
  have h1 : nan b = false := by
    cases h : nan b
    · rfl
    · rw [cls_nan.2 h] at hc; omega
  have h2 : decide (b % 9223372036854775808 = INF) = false := by
    simp only [decide_eq_false_iff_not]
    intro h
    have : cls b = 3 := by
      unfold cls
      rw [show b % SG = INF from h]; decide
    omega
  go_enter Try.func96, Try.ntmps96
  go_wp2_with (first | (go_at_call 92; refine (isnan_any _ hb _).mono ?_; rintro e w' ⟨rfl, rfl⟩; rw [h1]) | (go_at_call 91; refine (isinf_any _ hb _).mono ?_; rintro e w' ⟨rfl, rfl⟩; rw [h2]))
  go_ret
  exact ⟨rfl, rfl⟩
theorem cls_02 {b : Nat} (h : cls b = 0 ∨ cls b = 2) : b % 9223372036854775808 = 0 ∨ (4503599627370496 ≤ b % 9223372036854775808 ∧ b % 9223372036854775808 < 9218868437227405312) := by
  unfold cls at h; simp only [SG, ON, INF] at h; (repeat' split at h) <;> omega
theorem tcleanPart_any (b : Nat) (hb : b < 18446744073709551616) (hc : cls b = 0 ∨ cls b = 2) (w : World) : Calls Try.prog 81 #[.float .f64 b] w fun e w' => e = .returned (.bool true) ∧ w' = w := by
  have hk := cls_02 hc
  have hnn : nan b = false := by
    cases h : nan b
    · rfl
    · rw [cls_nan.2 h] at hc; omega
  have n0 : nan 0 = false := by decide
  have hr : rk b = if 9223372036854775808 ≤ b then -((b - 9223372036854775808 : Nat) : Int) else b := rfl
  by_cases h0 : b % 9223372036854775808 = 0
  · have o1 : FloatKind.f64.format.order b 0 = some Ordering.eq := by
      show Ieee.double.order b 0 = _
      rw [order_eq hb (by decide), hnn, n0, hr]
      have : rk 0 = 0 := by decide
      rw [this, show (if 9223372036854775808 ≤ b then -((b - 9223372036854775808 : Nat) : Int) else (b : Int)) = 0 by split <;> omega]
      rfl
    go_enter Try.func81, Try.ntmps81
    go_wp2
    go_ret
    exact ⟨rfl, rfl⟩
  · have o1 : (FloatKind.f64.format.order b 0 == some Ordering.eq) = false := by
      show (Ieee.double.order b 0 == some Ordering.eq) = false
      rw [order_eq hb (by decide), hnn, n0, hr]
      have : rk 0 = 0 := by decide
      rw [this]
      simp only [Bool.or_self, Bool.false_eq_true, if_false]
      rw [Bool.eq_false_iff]
      simp only [ne_eq, beq_iff_eq, Option.some.injEq]
      rw [cmp_int]
      intro h
      (repeat' split at h) <;> (first | omega | cases h)
    have o2 : FloatKind.f64.format.order (b % 9223372036854775808) 4503599627370496 = some Ordering.eq ∨ FloatKind.f64.format.order (b % 9223372036854775808) 4503599627370496 = some Ordering.gt := by
      show Ieee.double.order (b % 9223372036854775808) 4503599627370496 = _ ∨ Ieee.double.order (b % 9223372036854775808) 4503599627370496 = _
      have n1 : nan (b % 9223372036854775808) = false := by unfold nan; simp [SG, INF]; omega
      have n2 : nan 4503599627370496 = false := by decide
      rw [order_eq (by omega) (by decide), n1, n2]
      have e1 : rk (b % 9223372036854775808) = ((b % 9223372036854775808 : Nat) : Int) := by
        show (if 9223372036854775808 ≤ b % 9223372036854775808 then -((b % 9223372036854775808 - 9223372036854775808 : Nat) : Int) else ((b % 9223372036854775808 : Nat) : Int)) = _
        rw [if_neg (by omega)]
      have e2 : rk 4503599627370496 = 4503599627370496 := by decide
      rw [e1, e2]
      simp only [Bool.or_self, Bool.false_eq_true, if_false, Option.some.injEq]
      rw [cmp_int]
      (repeat' split) <;> first | omega | simp
    rcases o2 with o2 | o2
    all_goals
      go_enter Try.func81, Try.ntmps81
      go_wp2_with (first | (go_at_call 54; refine (abs_any _ hb _).mono ?_; rintro e w' ⟨rfl, rfl⟩) | (go_at_call 96; refine (tplain_any _ hb (by omega) _).mono ?_; rintro e w' ⟨rfl, rfl⟩))
      go_ret
      exact ⟨rfl, rfl⟩
/-- Both parts normal or nought. -/
def Neat (a : C) : Prop := (cls a.1 = 0 ∨ cls a.1 = 2) ∧ (cls a.2 = 0 ∨ cls a.2 = 2)
theorem tclean_any (a : C) (ha : wf a) (h : Neat a) (w : World) : Calls Try.prog 37 #[.complex .f64 a.1 a.2] w fun e w' => e = .returned (.bool true) ∧ w' = w := by
  obtain ⟨a1, a2⟩ := ha
  obtain ⟨h1, h2⟩ := h
  have H1 := Lib.hid h1
  have H2 := Lib.hid h2
  clear h1 h2
  go_enter Try.func37, Try.ntmps37
  go_wp2_with fail
  refine (tcleanPart_any a.1 a1 H1.out _).mono ?_
  rintro e w' ⟨rfl, rfl⟩
  go_wp2_with fail
  refine (tcleanPart_any a.2 a2 H2.out _).mono ?_
  rintro e w' ⟨rfl, rfl⟩
  go_wp2_with fail
  go_ret
  exact ⟨rfl, rfl⟩
end Go.Proofs.Ytnmpofjegepmaaa
