/- cplx.Abs on the axes. -/
import Derived.Test.YtnmpofjegepmaaaK6
namespace Go.Proofs.Ytnmpofjegepmaaa
open Go.RowKit Go.Proofs.Ytnmpofjegepmaaa.Fl Go.Proofs.Ytnmpofjegepmaaa.Pt

theorem run_max_gt {x y : Nat} (h : FloatKind.f64.format.order x y = some Ordering.gt) (w : World) : (Builtin.max_ #[31, 31] 31 #[.float .f64 x, .float .f64 y]).run Try.prog w = .ok (.float .f64 x) w := by
  simp [Builtin.max_, Builtin.max2, h]
theorem run_max_lt {x y : Nat} (h : FloatKind.f64.format.order x y = some Ordering.lt) (w : World) : (Builtin.max_ #[31, 31] 31 #[.float .f64 x, .float .f64 y]).run Try.prog w = .ok (.float .f64 y) w := by
  simp [Builtin.max_, Builtin.max2, h]
theorem run_min_gt {x y : Nat} (h : FloatKind.f64.format.order x y = some Ordering.gt) (w : World) : (Builtin.min_ #[31, 31] 31 #[.float .f64 x, .float .f64 y]).run Try.prog w = .ok (.float .f64 y) w := by
  simp [Builtin.min_, Builtin.min2, h]
theorem run_min_lt {x y : Nat} (h : FloatKind.f64.format.order x y = some Ordering.lt) (w : World) : (Builtin.min_ #[31, 31] 31 #[.float .f64 x, .float .f64 y]).run Try.prog w = .ok (.float .f64 x) w := by
  simp [Builtin.min_, Builtin.min2, h]
theorem run_max_00 (w : World) : (Builtin.max_ #[31, 31] 31 #[.float .f64 0, .float .f64 0]).run Try.prog w = .ok (.float .f64 0) w := by kernel_rfl
theorem run_min_00 (w : World) : (Builtin.min_ #[31, 31] 31 #[.float .f64 0, .float .f64 0]).run Try.prog w = .ok (.float .f64 0) w := by kernel_rfl

/-- 1 + (0/x)^2 = 1, and x times a root of 1. -/
theorem abs_fin {M t p s : Nat} {A : Int} (hM : EX M A 1074) (hA0 : A ≠ 0) (H1 : Ar .quo 0 M t) (H2 : Ar .mul t t p) (H3 : Ar .add 4607182418800017408 p s) : EX s (((1 : Nat) : Int) * ((1 : Nat) : Int)) 1074 := by
  have e1 := EX.of_cn H1.2 (quo_zero_ex hM hA0 1074 (by omega))
  have e2 := EX.of_cn H2.2 (mul_ex (m := 1074) e1 e1 (by decide) (by omega) (by omega))
  have e3 := EX.of_cn H3.2 (add_ex one_ex1 e2 (by decide) (by omega))
  exact EX_of e3 (by decide)

set_option maxRecDepth 100000 in
theorem abs_ax {u v : Nat} {A B : Int} (hu : EX u A 1074) (hv : EX v B 1074) (h0 : A = 0 ∨ B = 0) (hA : A.natAbs < 9007199254740992) (hB : B.natAbs < 9007199254740992) (w : World) :
    Calls Try.prog 55 #[.complex .f64 u v] w fun e w' => ∃ r, e = .returned (.float .f64 r) ∧ EX r ((A.natAbs : Int) + B.natAbs) 1074 ∧ But [] w w' := by
  have hX := abs_ex hu
  have hY := abs_ex hv
  have lu := hu.1.1
  have lv := hv.1.1
  have ix : decide (u % SG = INF) = false := by have := hX.1.2; rw [Nat.mod_mod] at this; simp; omega
  have iy : decide (v % SG = INF) = false := by have := hY.1.2; rw [Nat.mod_mod] at this; simp; omega
  have nx : nan (u % SG) = false := fin_nan hX.1
  have ny : nan (v % SG) = false := fin_nan hY.1
  have lx : u % SG < 9223372036854775808 := Nat.mod_lt _ (by decide)
  have ly : v % SG < 9223372036854775808 := Nat.mod_lt _ (by decide)
  have zx : A = 0 → u % SG = 0 := fun h => ex_zero (by rw [h] at hu; exact hu)
  have zy : B = 0 → v % SG = 0 := fun h => ex_zero (by rw [h] at hv; exact hv)
  have px : A ≠ 0 → u % SG ≠ 0 := ex_pos hu
  have py : B ≠ 0 → v % SG ≠ 0 := ex_pos hv
  have a1 := abs_any u lu
  have a2 := abs_any v lv
  rw [show u % 9223372036854775808 = u % SG from rfl] at a1
  rw [show v % 9223372036854775808 = v % SG from rfl] at a2
  generalize u % SG = X at *
  generalize v % SG = Y at *
  have HX := Lib.hid hX
  have HY := Lib.hid hY
  have IX := Lib.hid ix
  have IY := Lib.hid iy
  have NX := Lib.hid nx
  have NY := Lib.hid ny
  have A1 := Lib.hid a1
  have A2 := Lib.hid a2
  have ZX := Lib.hid zx
  have ZY := Lib.hid zy
  have PX := Lib.hid px
  have PY := Lib.hid py
  clear hX hY ix iy nx ny a1 a2 zx zy px py hu hv
  go_enter Try.func55, Try.ntmps55
  go_wp2_with fail
  refine (A1.out _).mono ?_
  rintro e w' ⟨rfl, rfl⟩
  go_wp2_with fail
  refine (A2.out _).mono ?_
  rintro e w' ⟨rfl, rfl⟩
  go_wp2_with fail
  refine (isinf1_any X (by omega) _).mono ?_
  rintro e w' ⟨rfl, rfl⟩
  rw [IX.out]
  go_wp2_with fail
  refine (isinf1_any Y (by omega) _).mono ?_
  rintro e w' ⟨rfl, rfl⟩
  rw [IY.out]
  go_wp2_with fail
  refine (isnan_any X (by omega) _).mono ?_
  rintro e w' ⟨rfl, rfl⟩
  rw [NX.out]
  go_wp2_with fail
  refine (isnan_any Y (by omega) _).mono ?_
  rintro e w' ⟨rfl, rfl⟩
  rw [NY.out]
  by_cases hA0 : A = 0
  · obtain rfl := ZX.out hA0
    by_cases hB0 : B = 0
    · obtain rfl := ZY.out hB0
      have m1 := run_max_00 w'
      have m2 := run_min_00 w'
      have o0 : FloatKind.f64.format.order 0 0 = some Ordering.eq := by decide +kernel
      go_wp2_with fail
      go_ret
      exact ⟨0, rfl, by rw [hA0, hB0]; exact z_ex _, But.refl _ _⟩
    · obtain ⟨o1, o2⟩ := ord_pos ly NY.out (PY.out hB0)
      have m1 := run_max_lt o2 w'
      have m2 := run_min_lt o2 w'
      go_wp2_with (first | (refine wpList_farith _ rfl .quo _ _ _ _ rfl _ _ rfl rfl (by simp) ?_; intro r n hr hc; have HR : Ar _ _ _ _ := And.intro hr hc; clear hr hc) | (refine wpList_farith _ rfl .mul _ _ _ _ rfl _ _ rfl rfl (by simp) ?_; intro r n hr hc; have HR : Ar _ _ _ _ := And.intro hr hc; clear hr hc) | (refine wpList_farith _ rfl .add _ _ _ _ rfl _ _ rfl rfl (by simp) ?_; intro r n hr hc; have HR : Ar _ _ _ _ := And.intro hr hc; clear hr hc))
      refine (msqrt_ex (k := 1) (abs_fin HY.out (by omega) (by assumption) (by assumption) (by assumption)) (by omega) (by omega) _).mono ?_
      rintro e w2 ⟨r1, rfl, er, hw2⟩
      have ER := Lib.hid er
      have hb2 : But [] w' w2 := by rw [hw2]; exact (But.refl _ _).drewN _
      clear hw2 er
      go_wp2_with (refine wpList_farith _ rfl .mul _ _ _ _ rfl _ _ rfl rfl (by simp) ?_; intro r7 n7 hr7 hc7)
      go_ret
      refine ⟨r7, rfl, EX_of (EX.of_cn hc7 (mul_ex (m := 1074) HY.out ER.out (by simp; omega) (by omega) (by omega))) ?_, hb2.drewN _⟩
      simp [hA0]
  · have hB0 : B = 0 := by rcases h0 with h | h; exact absurd h hA0; exact h
    obtain rfl := ZY.out hB0
    obtain ⟨o1, o2⟩ := ord_pos lx NX.out (PX.out hA0)
    have m1 := run_max_gt o1 w'
    have m2 := run_min_gt o1 w'
    go_wp2_with (first | (refine wpList_farith _ rfl .quo _ _ _ _ rfl _ _ rfl rfl (by simp) ?_; intro r n hr hc; have HR : Ar _ _ _ _ := And.intro hr hc; clear hr hc) | (refine wpList_farith _ rfl .mul _ _ _ _ rfl _ _ rfl rfl (by simp) ?_; intro r n hr hc; have HR : Ar _ _ _ _ := And.intro hr hc; clear hr hc) | (refine wpList_farith _ rfl .add _ _ _ _ rfl _ _ rfl rfl (by simp) ?_; intro r n hr hc; have HR : Ar _ _ _ _ := And.intro hr hc; clear hr hc))
    refine (msqrt_ex (k := 1) (abs_fin HX.out (by omega) (by assumption) (by assumption) (by assumption)) (by omega) (by omega) _).mono ?_
    rintro e w2 ⟨r1, rfl, er, hw2⟩
    have ER := Lib.hid er
    have hb2 : But [] w' w2 := by rw [hw2]; exact (But.refl _ _).drewN _
    clear hw2 er
    go_wp2_with (refine wpList_farith _ rfl .mul _ _ _ _ rfl _ _ rfl rfl (by simp) ?_; intro r7 n7 hr7 hc7)
    go_ret
    refine ⟨r7, rfl, EX_of (EX.of_cn hc7 (mul_ex (m := 1074) HX.out ER.out (by simp; omega) (by omega) (by omega))) ?_, hb2.drewN _⟩
    simp [hB0]
end Go.Proofs.Ytnmpofjegepmaaa
