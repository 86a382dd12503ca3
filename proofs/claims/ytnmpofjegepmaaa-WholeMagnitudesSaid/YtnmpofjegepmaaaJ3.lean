/- cplx.Abs of 3-4i. -/
import Derived.Test.YtnmpofjegepmaaaJ2
namespace Go.Proofs.Ytnmpofjegepmaaa
open Go.RowKit Go.Proofs.Ytnmpofjegepmaaa.Fl Go.Proofs.Ytnmpofjegepmaaa.Pt

@[go_sem] theorem sqrt_call (w : World) : (callFunc 111 #[.float .f64 4609715693590413312]).run Try.prog w = .ok (.value (.float .f64 4608308318706860032)) w := by kernel_rfl
theorem q_34 : N2 .quo 4613937818241073152 4616189618054758400 = 4604930618986332160 := by decide +kernel
theorem q_m : N2 .mul 4604930618986332160 4604930618986332160 = 4603241769126068224 := by decide +kernel
theorem q_a : N2 .add 4607182418800017408 4603241769126068224 = 4609715693590413312 := by decide +kernel
theorem q_5 : N2 .mul 4616189618054758400 4608308318706860032 = 4617315517961601024 := by decide +kernel
theorem isinf1_any (b : Nat) (hb : b < 18446744073709551616) (w : World) : Calls Try.prog 91 #[.float .f64 b, .int .i64 1] w fun e w' => e = .returned (.bool (decide (b = INF))) ∧ w' = w := by
  have h1 := inf_gt hb
  generalize decide (b = INF) = B at *
  go_enter Try.func91, Try.ntmps91
  go_wp2
  go_ret
  exact ⟨rb (by first | rfl | exact h1), rfl⟩
theorem msqrt_any (w : World) : Calls Try.prog 94 #[.float .f64 4609715693590413312] w fun e w' => e = .returned (.float .f64 4608308318706860032) ∧ w' = w := by
  go_enter Try.func94, Try.ntmps94
  go_wp2
  go_ret
  exact ⟨rfl, rfl⟩
set_option maxRecDepth 100000 in
theorem abs5_any (w : World) : Calls Try.prog 55 #[.complex .f64 4613937818241073152 13839561654909534208] w fun e w' => e = .returned (.float .f64 4617315517961601024) ∧ But [] w w' := by
  have n1 : nan 4613937818241073152 = false := by decide
  have n2 : nan 4616189618054758400 = false := by decide
  have d1 : decide (4613937818241073152 = INF) = false := by decide
  have d2 : decide (4616189618054758400 = INF) = false := by decide
  have hmx : ∀ w : World, (Builtin.max_ #[31, 31] 31 #[.float .f64 4613937818241073152, .float .f64 4616189618054758400]).run Try.prog w = .ok (.float .f64 4616189618054758400) w := by intro w; kernel_rfl
  have hmn : ∀ w : World, (Builtin.min_ #[31, 31] 31 #[.float .f64 4613937818241073152, .float .f64 4616189618054758400]).run Try.prog w = .ok (.float .f64 4613937818241073152) w := by intro w; kernel_rfl
  have o1 : FloatKind.f64.format.order 4616189618054758400 0 = some Ordering.gt := by decide +kernel
  go_enter Try.func55, Try.ntmps55
  go_wp2_with fail
  refine (abs_any 4613937818241073152 (by omega) _).mono ?_
  rintro e w' ⟨rfl, rfl⟩
  rw [show (4613937818241073152 % 9223372036854775808 : Nat) = 4613937818241073152 from rfl]
  go_wp2_with fail
  refine (abs_any 13839561654909534208 (by omega) _).mono ?_
  rintro e w' ⟨rfl, rfl⟩
  rw [show (13839561654909534208 % 9223372036854775808 : Nat) = 4616189618054758400 from rfl]
  go_wp2_with fail
  refine (isinf1_any 4613937818241073152 (by omega) _).mono ?_
  rintro e w' ⟨rfl, rfl⟩
  rw [d1]
  go_wp2_with fail
  refine (isinf1_any 4616189618054758400 (by omega) _).mono ?_
  rintro e w' ⟨rfl, rfl⟩
  rw [d2]
  go_wp2_with fail
  refine (isnan_any 4613937818241073152 (by omega) _).mono ?_
  rintro e w' ⟨rfl, rfl⟩
  rw [n1]
  go_wp2_with fail
  refine (isnan_any 4616189618054758400 (by omega) _).mono ?_
  rintro e w' ⟨rfl, rfl⟩
  rw [n2]
  go_wp2_with (refine wpList_farith _ rfl _ _ _ _ _ rfl _ _ rfl rfl (by simp) ?_; intro r n hr hc; first | (have hE := cn_eq (hc.trans q_34) (by decide); subst hE) | (have hE := cn_eq (hc.trans q_m) (by decide); subst hE) | (have hE := cn_eq (hc.trans q_a) (by decide); subst hE) | (have hE := cn_eq (hc.trans q_5) (by decide); subst hE))
  refine (msqrt_any _).mono ?_
  rintro e w2 ⟨rfl, rfl⟩
  go_wp2_with (refine wpList_farith _ rfl _ _ _ _ _ rfl _ _ rfl rfl (by simp) ?_; intro r n hr hc; (have hE := cn_eq (hc.trans q_5) (by decide); subst hE))
  go_ret
  first | exact ⟨rfl, (But.refl _ _).drewN _⟩ | exact ⟨rfl, ((But.refl _ _).drewN _).drewN _⟩
end Go.Proofs.Ytnmpofjegepmaaa
