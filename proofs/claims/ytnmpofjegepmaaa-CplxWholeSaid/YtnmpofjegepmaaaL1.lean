/- quaverlaw03.awake. -/
import Derived.Test.YtnmpofjegepmaaaK9
import Derived.Test.YtnmpofjegepmaaaJ5
namespace Go.Proofs.Ytnmpofjegepmaaa
open Go.RowKit Go.Proofs.Ytnmpofjegepmaaa.Fl Go.Proofs.Ytnmpofjegepmaaa.Pt

set_option maxRecDepth 100000 in
theorem abs5p_any (w : World) : Calls Try.prog 55 #[.complex .f64 4613937818241073152 4616189618054758400] w fun e w' => e = .returned (.float .f64 4617315517961601024) ∧ But [] w w' := by
  have n1 : nan 4613937818241073152 = false := by decide
  have n2 : nan 4616189618054758400 = false := by decide
  have d1 : decide (4613937818241073152 = INF) = false := by decide
  have d2 : decide (4616189618054758400 = INF) = false := by decide
  have hmx : ∀ w : World, (Builtin.max_ #[31, 31] 31 #[.float .f64 4613937818241073152, .float .f64 4616189618054758400]).run Try.prog w = .ok (.float .f64 4616189618054758400) w := by intro w; kernel_rfl
  have hmn : ∀ w : World, (Builtin.min_ #[31, 31] 31 #[.float .f64 4613937818241073152, .float .f64 4616189618054758400]).run Try.prog w = .ok (.float .f64 4613937818241073152) w := by intro w; kernel_rfl
  have o1 : FloatKind.f64.format.order 4616189618054758400 0 = some Ordering.gt := by decide +kernel
  go_enter Try.func55, Try.ntmps55
  go_wp2_with fail
  refine (abs_any 4613937818241073152 (by omega) _).mono ?_
  rintro e w' ⟨rfl, rfl⟩
  rw [show (4613937818241073152 % 9223372036854775808 : Nat) = 4613937818241073152 from rfl]
  go_wp2_with fail
  refine (abs_any 4616189618054758400 (by omega) _).mono ?_
  rintro e w' ⟨rfl, rfl⟩
  rw [show (4616189618054758400 % 9223372036854775808 : Nat) = 4616189618054758400 from rfl]
  go_wp2_with fail
  refine (isinf1_any 4613937818241073152 (by omega) _).mono ?_
  rintro e w' ⟨rfl, rfl⟩
  rw [d1]
  go_wp2_with fail
  refine (isinf1_any 4616189618054758400 (by omega) _).mono ?_
  rintro e w' ⟨rfl, rfl⟩
  rw [d2]
  go_wp2_with fail
  refine (isnan_any 4613937818241073152 (by omega) _).mono ?_
  rintro e w' ⟨rfl, rfl⟩
  rw [n1]
  go_wp2_with fail
  refine (isnan_any 4616189618054758400 (by omega) _).mono ?_
  rintro e w' ⟨rfl, rfl⟩
  rw [n2]
  go_wp2_with (refine wpList_farith _ rfl _ _ _ _ _ rfl _ _ rfl rfl (by simp) ?_; intro r n hr hc; first | (have hE := cn_eq (hc.trans q_34) (by decide); subst hE) | (have hE := cn_eq (hc.trans q_m) (by decide); subst hE) | (have hE := cn_eq (hc.trans q_a) (by decide); subst hE) | (have hE := cn_eq (hc.trans q_5) (by decide); subst hE))
  refine (msqrt_any _).mono ?_
  rintro e w2 ⟨rfl, rfl⟩
  go_wp2_with (refine wpList_farith _ rfl _ _ _ _ _ rfl _ _ rfl rfl (by simp) ?_; intro r n hr hc; (have hE := cn_eq (hc.trans q_5) (by decide); subst hE))
  go_ret
  first | exact ⟨rfl, (But.refl _ _).drewN _⟩ | exact ⟨rfl, ((But.refl _ _).drewN _).drewN _⟩

theorem y_8 : N2 .add 4613937818241073152 4617315517961601024 = 4620693217682128896 := by decide +kernel
theorem y_4 : N2 .mul 4620693217682128896 4602678819172646912 = 4616189618054758400 := by decide +kernel
theorem y_d : N2 .mul 4611686018427387904 4611686018427387904 = 4616189618054758400 := by decide +kernel
theorem y_1 : N2 .quo 4616189618054758400 4616189618054758400 = 4607182418800017408 := by decide +kernel
theorem sqrt4 : Ieee.double.sqrt 4616189618054758400 = some 4611686018427387904 := by decide +kernel
theorem msqrt4_any (w : World) : Calls Try.prog 94 #[.float .f64 4616189618054758400] w fun e w' => e = .returned (.float .f64 4611686018427387904) ∧ w' = w := by
  have h := sqrt_run sqrt4
  go_enter Try.func94, Try.ntmps94
  go_wp2
  go_ret
  exact ⟨rfl, rfl⟩
set_option maxRecDepth 100000 in
theorem sqrt34_any (w : World) : Calls Try.prog 65 #[.complex .f64 4613937818241073152 4616189618054758400] w fun e w' => e = .returned (.complex .f64 4611686018427387904 4607182418800017408) ∧ But [] w w' := by
  have hf : finB 4613937818241073152 4616189618054758400 = true := by decide +kernel
  have hmx : ∀ w : World, (Builtin.max_ #[31, 31] 31 #[.float .f64 4613937818241073152, .float .f64 4616189618054758400]).run Try.prog w = .ok (.float .f64 4616189618054758400) w := by intro w; kernel_rfl
  have o1 : FloatKind.f64.format.order 4616189618054758400 0 = some Ordering.gt := by decide +kernel
  have o2 : FloatKind.f64.format.order 4616189618054758400 9110782046170513408 = some Ordering.lt := by decide +kernel
  have o3 : FloatKind.f64.format.order 4616189618054758400 553942754166571008 = some Ordering.gt := by decide +kernel
  have o4 : FloatKind.f64.format.order 4613937818241073152 0 = some Ordering.gt := by decide +kernel
  have HF := Lib.hid hf
  clear hf
  go_enter Try.func65, Try.ntmps65
  go_wp2_with fail
  refine (finite_any 4613937818241073152 4616189618054758400 (by omega) (by omega) _).mono ?_
  rintro e w' ⟨rfl, rfl⟩
  rw [HF.out]
  go_wp2_with fail
  refine (abs_any 4613937818241073152 (by omega) _).mono ?_
  rintro e w' ⟨rfl, rfl⟩
  rw [show (4613937818241073152 % 9223372036854775808 : Nat) = 4613937818241073152 from rfl]
  go_wp2_with fail
  refine (abs_any 4616189618054758400 (by omega) _).mono ?_
  rintro e w' ⟨rfl, rfl⟩
  rw [show (4616189618054758400 % 9223372036854775808 : Nat) = 4616189618054758400 from rfl]
  go_wp2_with fail
  refine (abs_any 4613937818241073152 (by omega) _).mono ?_
  rintro e w' ⟨rfl, rfl⟩
  rw [show (4613937818241073152 % 9223372036854775808 : Nat) = 4613937818241073152 from rfl]
  go_wp2_with fail
  refine (abs5p_any _).mono ?_
  rintro e w3 ⟨rfl, hb3⟩
  go_wp2_with (first | (refine wpList_farith _ rfl .add _ _ _ _ rfl _ _ rfl rfl (by simp) ?_; intro r n hr hc; first | (have hE := cn_eq (hc.trans y_8) (by decide); subst hE)) | (refine wpList_farith _ rfl .mul _ _ _ _ rfl _ _ rfl rfl (by simp) ?_; intro r n hr hc; first | (have hE := cn_eq (hc.trans y_4) (by decide); subst hE) | (have hE := cn_eq (hc.trans y_d) (by decide); subst hE)) | (refine wpList_farith _ rfl .quo _ _ _ _ rfl _ _ rfl rfl (by simp) ?_; intro r n hr hc; first | (have hE := cn_eq (hc.trans y_1) (by decide); subst hE)))
  refine (msqrt4_any _).mono ?_
  rintro e w4 ⟨rfl, hw4⟩
  have hb4 : But [] w3 w4 := by rw [hw4]; exact (But.refl _ _).drewN _
  clear hw4
  go_wp2_with (first | (refine wpList_farith _ rfl .add _ _ _ _ rfl _ _ rfl rfl (by simp) ?_; intro r n hr hc; first | (have hE := cn_eq (hc.trans y_8) (by decide); subst hE)) | (refine wpList_farith _ rfl .mul _ _ _ _ rfl _ _ rfl rfl (by simp) ?_; intro r n hr hc; first | (have hE := cn_eq (hc.trans y_4) (by decide); subst hE) | (have hE := cn_eq (hc.trans y_d) (by decide); subst hE)) | (refine wpList_farith _ rfl .quo _ _ _ _ rfl _ _ rfl rfl (by simp) ?_; intro r n hr hc; first | (have hE := cn_eq (hc.trans y_1) (by decide); subst hE)))
  go_ret
  exact ⟨rfl, (hb3.trans hb4).drewN _⟩
end Go.Proofs.Ytnmpofjegepmaaa
