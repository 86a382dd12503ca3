/- Small closed contracts: math.Abs, IsNaN, IsInf, Inf, NaN, Ldexp(1, -1030). -/
import Derived.Test.YtnmpofjegepmaaaDoorG9
namespace Go.Proofs.YtnmpofjegepmaaaDoor
open Go.RowKit Go.Proofs.YtnmpofjegepmaaaDoor.Fl Go.Proofs.YtnmpofjegepmaaaDoor.Pt

theorem abs_any (b : Nat) (hb : b < 18446744073709551616) (w : World) : Calls Tryd.prog 33 #[.float .f64 b] w fun e w' => e = .returned (.float .f64 (b % 9223372036854775808)) ∧ w' = w := by
  have h1 := andNot_sg b hb
  go_enter Tryd.func33, Tryd.ntmps33
  go_wp2
  go_ret
  exact ⟨rf (by omega), rfl⟩
theorem isnan_any (b : Nat) (hb : b < 18446744073709551616) (w : World) : Calls Tryd.prog 18 #[.float .f64 b] w fun e w' => e = .returned (.bool (nan b)) ∧ w' = w := by
  have h1 := ne_self hb
  go_enter Tryd.func18, Tryd.ntmps18
  go_wp2
  go_ret
  exact ⟨rb (by first | rfl | exact h1), rfl⟩
theorem isinf_any (b : Nat) (hb : b < 18446744073709551616) (w : World) : Calls Tryd.prog 19 #[.float .f64 b, .int .i64 0] w fun e w' => e = .returned (.bool (decide (b % 9223372036854775808 = INF))) ∧ w' = w := by
  have h1 := inf_gt (b := b % 9223372036854775808) (by omega)
  go_enter Tryd.func19, Tryd.ntmps19
  go_wp2_with (go_at_call 33; refine (abs_any _ hb _).mono ?_; rintro e w' ⟨rfl, rfl⟩)
  go_ret
  exact ⟨rb (by first | rfl | exact h1), rfl⟩
theorem isinf1_any (b : Nat) (hb : b < 18446744073709551616) (w : World) : Calls Tryd.prog 19 #[.float .f64 b, .int .i64 1] w fun e w' => e = .returned (.bool (decide (b = INF))) ∧ w' = w := by
  have h1 := inf_gt hb
  generalize decide (b = INF) = B at *
  go_enter Tryd.func19, Tryd.ntmps19
  go_wp2
  go_ret
  exact ⟨rb (by first | rfl | exact h1), rfl⟩
theorem inf_any (w : World) : Calls Tryd.prog 5 #[.int .i64 1] w fun e w' => e = .returned (.float .f64 9218868437227405312) ∧ w' = w := by
  go_enter Tryd.func5, Tryd.ntmps5
  go_wp2
  go_ret
  exact ⟨rfl, rfl⟩
theorem mnan_any (w : World) : Calls Tryd.prog 6 #[] w fun e w' => e = .returned (.float .f64 9221120237041090561) ∧ w' = w := by
  go_enter Tryd.func6, Tryd.ntmps6
  go_wp2
  go_ret
  exact ⟨rfl, rfl⟩
theorem norm1_any (w : World) : Calls Tryd.prog 36 #[.float .f64 4607182418800017408] w fun e w' => e = .returned (.tuple #[.float .f64 4607182418800017408, .int .i64 0]) ∧ w' = w := by
  have o1 : FloatKind.f64.format.order 4607182418800017408 4503599627370496 = some Ordering.gt := by decide +kernel
  go_enter Tryd.func36, Tryd.ntmps36
  go_wp2_with fail
  refine (abs_any 4607182418800017408 (by omega) _).mono ?_
  rintro e w' ⟨rfl, rfl⟩
  rw [show (4607182418800017408 % 9223372036854775808 : Nat) = 4607182418800017408 from rfl]
  go_wp2_with fail
  go_ret2
  exact ⟨rfl, rfl⟩
/-- 2^-977 · 2^-53 = 2^-1030. -/
theorem mul_tiny : N2 .mul 4368491638549381120 207165582859042816 = 17592186044416 := by decide +kernel
theorem ldexp_any (w : World) : Calls Tryd.prog 23 #[.float .f64 4607182418800017408, .int .i64 (-1030)] w fun r w' => r = .returned (.float .f64 17592186044416) ∧ But [] w w' := by
  have o1 : FloatKind.f64.format.order 4607182418800017408 0 = some Ordering.gt := by decide +kernel
  have b1 : bits .and .i64 1023 2047 = 1023 := by decide
  have b2 : bits .andNot .u64 4607182418800017408 9218868437227405312 = 0 := by decide
  have b3 : bits .or .u64 0 207165582859042816 = 207165582859042816 := by decide
  have hi : decide ((4607182418800017408 : Nat) % 9223372036854775808 = INF) = false := by decide
  have hn : nan 4607182418800017408 = false := by decide
  have HI := Lib.hid hi
  have HN := Lib.hid hn
  clear hi hn
  go_enter Tryd.func23, Tryd.ntmps23
  go_wp2_with fail
  refine (isinf_any 4607182418800017408 (by omega) _).mono ?_
  rintro e2 w' ⟨rfl, rfl⟩
  rw [HI.out]
  go_wp2_with fail
  refine (isnan_any 4607182418800017408 (by omega) _).mono ?_
  rintro e2 w' ⟨rfl, rfl⟩
  rw [HN.out]
  go_wp2_with fail
  refine (norm1_any _).mono ?_
  rintro e2 w' ⟨rfl, rfl⟩
  obtain ⟨r, nn, h1, h2, h3⟩ := arith_any (P := Tryd.prog) w' .mul (by simp) 23 4368491638549381120 207165582859042816
  obtain rfl := cn_eq (h3.trans mul_tiny) (by decide)
  clear h2 h3
  go_wp2_with fail
  go_ret
  exact ⟨rfl, (But.refl _ _).drewN _⟩
theorem ldexp1_any (w : World) : Calls Tryd.prog 8 #[.float .f64 4607182418800017408, .int .i64 (-1030)] w fun r w' => r = .returned (.float .f64 17592186044416) ∧ But [] w w' := by
  go_enter Tryd.func8, Tryd.ntmps8
  go_wp2_with fail
  refine (ldexp_any _).mono ?_
  rintro e2 w' ⟨rfl, hb⟩
  go_wp2_with fail
  go_ret
  exact ⟨rfl, hb⟩
end Go.Proofs.YtnmpofjegepmaaaDoor
