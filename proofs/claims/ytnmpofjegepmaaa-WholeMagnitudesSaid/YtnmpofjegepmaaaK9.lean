/- cplx.Sqrt of squares: the walk. -/
import Derived.Test.YtnmpofjegepmaaaK8
import Derived.Test.YtnmpofjegepmaaaC3
import Derived.Test.YtnmpofjegepmaaaG1
namespace Go.Proofs.Ytnmpofjegepmaaa
open Go.RowKit Go.Proofs.Ytnmpofjegepmaaa.Fl Go.Proofs.Ytnmpofjegepmaaa.Pt

theorem finB_ex {u v k : Nat} {A B : Int} (hu : EX u A k) (hv : EX v B k) : finB u v = true := by
  rw [finB_eq]; simp [hu.1.2, hv.1.2]

set_option maxRecDepth 100000 in
theorem csqrt_pos {u k : Nat} (hu : EX u (((k * k : Nat) : Int)) 1074) (hk : k < 1048576) (w : World) :
    Calls Try.prog 65 #[.complex .f64 u 0] w fun e w' => ∃ re im, e = .returned (.complex .f64 re im) ∧ But [] w w' ∧ EX re (k : Int) 1074 ∧ EX im 0 1074 := by
  have hkk : k * k < 1099511627776 := by
    have : k * k < 1048576 * 1048576 := Nat.mul_lt_mul'' hk hk
    simpa using this
  have hf := finB_ex hu (z_ex 1074)
  have hX := abs_ex hu
  have hXn : EX (u % SG) ((k * k : Nat) : Int) 1074 := EX_of hX (by omega)
  have lX : u % SG < 9223372036854775808 := Nat.mod_lt _ (by decide)
  have lu := hu.1.1
  have HF := Lib.hid hf
  have a1 := abs_any u lu
  have a2 := abs_any 0 (by decide)
  rw [show u % 9223372036854775808 = u % SG from rfl] at a1
  rw [show (0 % 9223372036854775808 : Nat) = 0 from rfl] at a2
  have HU := Lib.hid hu
  have HX := Lib.hid hXn
  have A1 := Lib.hid a1
  have A2 := Lib.hid a2
  clear hf hX hXn a1 a2
  generalize u % SG = X at *
  go_enter Try.func65, Try.ntmps65
  go_wp2_with fail
  refine (finite_any u 0 lu (by decide) _).mono ?_
  rintro e w' ⟨rfl, rfl⟩
  rw [HF.out]
  go_wp2_with fail
  refine (A1.out _).mono ?_
  rintro e w' ⟨rfl, rfl⟩
  go_wp2_with fail
  refine (A2.out _).mono ?_
  rintro e w' ⟨rfl, rfl⟩
  by_cases h0 : k = 0
  · have hx0 : X = 0 := by
      have h1 := HX.out
      rw [h0] at h1
      have h2 := ex_zero (x := X) (k := 1074) (by simpa using h1)
      simp only [SG] at h2
      omega
    subst hx0
    have m1 := run_max_00 w'
    have o0 : FloatKind.f64.format.order 0 0 = some Ordering.eq := by decide +kernel
    clear hu
    go_wp2_with fail
    go_ret
    exact ⟨0, 0, rfl, But.refl _ _, by rw [h0]; exact ⟨z_ex _, z_ex _⟩⟩
  · have hk0 : 0 < k := by omega
    have hp : 0 < k * k := Nat.mul_pos hk0 hk0
    have o1 := HX.out.gt0 (by omega)
    have o2 := HX.out.not_great (by omega)
    have o3 := HX.out.not_small hp
    have m1 := run_max_gt o1 w'
    have o4 := HU.out.gt0 (by omega)
    have HO4 := Lib.hid o4
    clear hu o4
    go_wp2_with fail
    refine (A1.out _).mono ?_
    rintro e w2 ⟨rfl, rfl⟩
    go_wp2_with fail
    refine (abs_ax HU.out (z_ex 1074) (.inr rfl) (by omega) (by decide) _).mono ?_
    rintro e w3 ⟨r0, rfl, er0, hb3⟩
    have ER0 : Hid (EX r0 ((k * k : Nat) : Int) 1074) := Lib.hid (EX_of er0 (by simp only [Int.natAbs_natCast, Int.natAbs_zero]; omega))
    clear er0
    go_wp2_with (first | (refine wpList_farith _ rfl .add _ _ _ _ rfl _ _ rfl rfl (by simp) ?_; intro r n hr hc; have HR : Ar _ _ _ _ := And.intro hr hc; clear hr hc) | (refine wpList_farith _ rfl .mul _ _ _ _ rfl _ _ rfl rfl (by simp) ?_; intro r n hr hc; have HR : Ar _ _ _ _ := And.intro hr hc; clear hr hc) | (refine wpList_farith _ rfl .quo _ _ _ _ rfl _ _ rfl rfl (by simp) ?_; intro r n hr hc; have HR : Ar _ _ _ _ := And.intro hr hc; clear hr hc))
    refine (msqrt_ex (half_sum HX.out ER0.out hk (by assumption) (by assumption)) hk0 (by omega) _).mono ?_
    rintro e w4 ⟨r1, rfl, er1, hw4⟩
    have hb4 : But [] w3 w4 := by rw [hw4]; exact (But.refl _ _).drewN _
    have hr1 := er1.nn (by omega)
    have ER1 := Lib.hid er1
    have o4 := HO4.out
    clear er1 hw4
    go_wp2_with (first | (refine wpList_farith _ rfl .add _ _ _ _ rfl _ _ rfl rfl (by simp) ?_; intro r n hr hc; have HR : Ar _ _ _ _ := And.intro hr hc; clear hr hc) | (refine wpList_farith _ rfl .mul _ _ _ _ rfl _ _ rfl rfl (by simp) ?_; intro r n hr hc; have HR : Ar _ _ _ _ := And.intro hr hc; clear hr hc) | (refine wpList_farith _ rfl .quo _ _ _ _ rfl _ _ rfl rfl (by simp) ?_; intro r n hr hc; have HR : Ar _ _ _ _ := And.intro hr hc; clear hr hc))
    go_ret
    exact ⟨_, _, rfl, (hb3.trans hb4).drewN _, ER1.out, half_quo ER1.out hk0 hk (by assumption) (by assumption)⟩

set_option maxRecDepth 100000 in
theorem csqrt_neg {u k : Nat} (hu : EX u (-((k * k : Nat) : Int)) 1074) (hk : k < 1048576) (w : World) :
    Calls Try.prog 65 #[.complex .f64 u 0] w fun e w' => ∃ re im, e = .returned (.complex .f64 re im) ∧ But [] w w' ∧ EX re 0 1074 ∧ EX im (k : Int) 1074 := by
  have hkk : k * k < 1099511627776 := by
    have : k * k < 1048576 * 1048576 := Nat.mul_lt_mul'' hk hk
    simpa using this
  have hf := finB_ex hu (z_ex 1074)
  have hX := abs_ex hu
  have hXn : EX (u % SG) ((k * k : Nat) : Int) 1074 := EX_of hX (by omega)
  have lX : u % SG < 9223372036854775808 := Nat.mod_lt _ (by decide)
  have lu := hu.1.1
  have HF := Lib.hid hf
  have a1 := abs_any u lu
  have a2 := abs_any 0 (by decide)
  rw [show u % 9223372036854775808 = u % SG from rfl] at a1
  rw [show (0 % 9223372036854775808 : Nat) = 0 from rfl] at a2
  have HU := Lib.hid hu
  have HX := Lib.hid hXn
  have A1 := Lib.hid a1
  have A2 := Lib.hid a2
  clear hf hX hXn a1 a2
  generalize u % SG = X at *
  go_enter Try.func65, Try.ntmps65
  go_wp2_with fail
  refine (finite_any u 0 lu (by decide) _).mono ?_
  rintro e w' ⟨rfl, rfl⟩
  rw [HF.out]
  go_wp2_with fail
  refine (A1.out _).mono ?_
  rintro e w' ⟨rfl, rfl⟩
  go_wp2_with fail
  refine (A2.out _).mono ?_
  rintro e w' ⟨rfl, rfl⟩
  by_cases h0 : k = 0
  · have hx0 : X = 0 := by
      have h1 := HX.out
      rw [h0] at h1
      have h2 := ex_zero (x := X) (k := 1074) (by simpa using h1)
      simp only [SG] at h2
      omega
    subst hx0
    have m1 := run_max_00 w'
    have o0 : FloatKind.f64.format.order 0 0 = some Ordering.eq := by decide +kernel
    clear hu
    go_wp2_with fail
    go_ret
    exact ⟨0, 0, rfl, But.refl _ _, by rw [h0]; exact ⟨z_ex _, z_ex _⟩⟩
  · have hk0 : 0 < k := by omega
    have hp : 0 < k * k := Nat.mul_pos hk0 hk0
    have o1 := HX.out.gt0 (by omega)
    have o2 := HX.out.not_great (by omega)
    have o3 := HX.out.not_small hp
    have m1 := run_max_gt o1 w'
    have o4 := HU.out.lt0 (by omega)
    have HO4 := Lib.hid o4
    clear hu o4
    go_wp2_with fail
    refine (A1.out _).mono ?_
    rintro e w2 ⟨rfl, rfl⟩
    go_wp2_with fail
    refine (abs_ax HU.out (z_ex 1074) (.inr rfl) (by omega) (by decide) _).mono ?_
    rintro e w3 ⟨r0, rfl, er0, hb3⟩
    have ER0 : Hid (EX r0 ((k * k : Nat) : Int) 1074) := Lib.hid (EX_of er0 (by simp only [Int.natAbs_neg, Int.natAbs_natCast, Int.natAbs_zero]; omega))
    clear er0
    go_wp2_with (first | (refine wpList_farith _ rfl .add _ _ _ _ rfl _ _ rfl rfl (by simp) ?_; intro r n hr hc; have HR : Ar _ _ _ _ := And.intro hr hc; clear hr hc) | (refine wpList_farith _ rfl .mul _ _ _ _ rfl _ _ rfl rfl (by simp) ?_; intro r n hr hc; have HR : Ar _ _ _ _ := And.intro hr hc; clear hr hc) | (refine wpList_farith _ rfl .quo _ _ _ _ rfl _ _ rfl rfl (by simp) ?_; intro r n hr hc; have HR : Ar _ _ _ _ := And.intro hr hc; clear hr hc))
    refine (msqrt_ex (half_sum HX.out ER0.out hk (by assumption) (by assumption)) hk0 (by omega) _).mono ?_
    rintro e w4 ⟨r1, rfl, er1, hw4⟩
    have hb4 : But [] w3 w4 := by rw [hw4]; exact (But.refl _ _).drewN _
    have hr1 := er1.nn (by omega)
    have ER1 := Lib.hid er1
    have o4 := HO4.out
    clear er1 hw4
    go_wp2_with (first | (refine wpList_farith _ rfl .add _ _ _ _ rfl _ _ rfl rfl (by simp) ?_; intro r n hr hc; have HR : Ar _ _ _ _ := And.intro hr hc; clear hr hc) | (refine wpList_farith _ rfl .mul _ _ _ _ rfl _ _ rfl rfl (by simp) ?_; intro r n hr hc; have HR : Ar _ _ _ _ := And.intro hr hc; clear hr hc) | (refine wpList_farith _ rfl .quo _ _ _ _ rfl _ _ rfl rfl (by simp) ?_; intro r n hr hc; have HR : Ar _ _ _ _ := And.intro hr hc; clear hr hc))
    refine (abs_any _ (half_quo ER1.out hk0 hk (by assumption) (by assumption)).1.1 _).mono ?_
    rintro e w5 ⟨rfl, hw5⟩
    have HV := Lib.hid (abs_ex (half_quo ER1.out hk0 hk (by assumption) (by assumption)))
    have hb5 : But [] w4 w5 := by rw [hw5]; exact (But.refl _ _).drewN _
    clear hw5
    go_wp2_with fail
    refine (copysign_any r1 0 hr1 (by decide) _).mono ?_
    rintro e w6 ⟨rfl, rfl⟩
    rw [show sgw 0 = 0 by decide, Nat.add_zero]
    go_wp2_with fail
    go_ret
    exact ⟨_, _, rfl, (hb3.trans hb4).trans hb5, EX_of HV.out (by simp), ER1.out⟩
end Go.Proofs.Ytnmpofjegepmaaa
