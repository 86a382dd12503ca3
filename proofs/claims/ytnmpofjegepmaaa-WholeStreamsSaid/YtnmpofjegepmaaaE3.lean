/- Contracts of layer top: eighth, half, section. -/
import Derived.Test.YtnmpofjegepmaaaE2
namespace Go.Proofs.Ytnmpofjegepmaaa
open Go.RowKit Go.Proofs.Ytnmpofjegepmaaa.Fl

/-- (m - 7) / 8; half of it. -/
def e8 (m : Nat) : Nat := N2 .sub (N2 .quo (floatOfInt .f64 (m : Int)) 4620693217682128896) 4606056518893174784
def h8 (m : Nat) : Nat := N2 .quo (e8 m) 4611686018427387904
theorem e8_ex : ∀ m, m < 16 → (e8 m < 18446744073709551616 ∧ e8 m % SG < INF) ∧ ky (e8 m) = ((m : Int) - 7) * ((2 ^ 1071 : Nat) : Int) := by decide +kernel
theorem h8_ex : ∀ m, m < 16 → (h8 m < 18446744073709551616 ∧ h8 m % SG < INF) ∧ ky (h8 m) = ((m : Int) - 7) * ((2 ^ 1070 : Nat) : Int) := by decide +kernel
theorem e8_EX {m : Nat} (h : m < 16) : EX (e8 m) ((m : Int) - 7) 1071 := e8_ex m h
theorem h8_EX {m : Nat} (h : m < 16) : EX (h8 m) ((m : Int) - 7) 1070 := h8_ex m h

theorem eighth_close {x r1 r2 r3 r4 k : Nat} {w : World} (H1 : Ar .quo (floatOfInt .f64 ((x : Int) % 16)) 4620693217682128896 r1) (H2 : Ar .sub r1 4606056518893174784 r2) (H3 : Ar .quo (floatOfInt .f64 ((x : Int) / 16)) 4620693217682128896 r3) (H4 : Ar .sub r3 4606056518893174784 r4) :
    CPost (e8 (x % 16)) (e8 (x / 16)) w (.returned (.complex .f64 r2 r4)) (w.drewN k) :=
  ⟨r2, r4, k, rfl, rfl, H2.1, H4.1, by rw [H2.2, N2_l H1.2]; rfl, by rw [H4.2, N2_l H3.2]; rfl⟩

set_option maxRecDepth 100000 in
theorem eighth_any (x : Nat) (hx : x < 256) (w : World) : Calls Try.prog 105 #[.int .u8 x] w (CPost (e8 (x % 16)) (e8 (x / 16)) w) := by
  go_enter Try.func105, Try.ntmps105
  go_wp2_with (refine wpList_farith _ rfl _ _ _ _ _ rfl _ _ rfl rfl (by simp) ?_; intro r n hr hc; have HR : Ar _ _ _ _ := And.intro hr hc; clear hr hc)
  go_ret
  exact eighth_close (by assumption) (by assumption) (by assumption) (by assumption)

theorem half_close {a b r1 r2 k : Nat} {w : World} (H1 : Ar .quo a 4611686018427387904 r1) (H2 : Ar .quo b 4611686018427387904 r2) :
    CPost (N2 .quo a 4611686018427387904) (N2 .quo b 4611686018427387904) w (.returned (.complex .f64 r1 r2)) (w.drewN k) := ⟨r1, r2, k, rfl, rfl, H1.1, H2.1, H1.2, H2.2⟩
set_option maxRecDepth 100000 in
theorem half_any (a b : Nat) (w : World) : Calls Try.prog 104 #[.complex .f64 a b] w (CPost (N2 .quo a 4611686018427387904) (N2 .quo b 4611686018427387904) w) := by
  go_enter Try.func104, Try.ntmps104
  go_wp2_with (refine wpList_farith _ rfl _ _ _ _ _ rfl _ _ rfl rfl (by simp) ?_; intro r n hr hc; have HR : Ar _ _ _ _ := And.intro hr hc; clear hr hc)
  go_ret
  exact half_close (by assumption) (by assumption)

/-- An exact answer is the very number. -/
theorem CPost.ex {x y : Nat} {w w' : World} {e : Ending} {m n : Int} {k : Nat} (h : CPost x y w e w') (hx : EX x m k) (hy : EX y n k) : e = .returned (.complex .f64 x y) ∧ ∃ d, w' = w.drewN d := by
  obtain ⟨re, im, d, rfl, rfl, _, _, h1, h2⟩ := h
  rw [cn_eq h1 (fin_nan hx.1), cn_eq h2 (fin_nan hy.1)]
  exact ⟨rfl, d, rfl⟩

@[go_sem] theorem unary_neg_float (k : FloatKind) (b : Nat) : Op.unary .neg (.float k b) = pure (.float k (Op.negFloat k b)) := rfl

theorem negFloat_ng (b : Nat) (hb : b < 18446744073709551616) : Op.negFloat .f64 b = ng b := by
  have hx : b ^^^ 9223372036854775808 = ng b := by
    unfold ng; simp only [SG]
    by_cases h : 9223372036854775808 ≤ b
    · rw [if_pos h]
      have e : b = (b - 9223372036854775808) ||| 9223372036854775808 := by
        have := Nat.two_pow_add_eq_or_of_lt (i := 63) (b := b - 9223372036854775808) (by omega) 1
        rw [Nat.mul_one, Nat.or_comm] at this
        rw [← this]; omega
      apply Nat.eq_of_testBit_eq
      intro i
      rw [Nat.testBit_xor]
      have t1 : Nat.testBit 9223372036854775808 i = decide (63 = i) := @Nat.testBit_two_pow 63 i
      rw [t1]
      by_cases hi : 63 = i
      · subst hi
        have t2 : Nat.testBit b 63 = true := by rw [e, Nat.testBit_or, t1]; simp
        have t3 : Nat.testBit (b - 9223372036854775808) 63 = false := Nat.testBit_lt_two_pow (by omega)
        rw [t2, t3]; rfl
      · conv => lhs; rw [e]
        rw [Nat.testBit_or, t1]
        simp [hi]
    · rw [if_neg h]
      have := Nat.two_pow_add_eq_or_of_lt (i := 63) (b := b) (by omega) 1
      rw [Nat.mul_one] at this
      have e : b + 9223372036854775808 = 9223372036854775808 ||| b := by rw [← this]; omega
      rw [e]
      apply Nat.eq_of_testBit_eq
      intro i
      rw [Nat.testBit_xor, Nat.testBit_or]
      have t1 : Nat.testBit 9223372036854775808 i = decide (63 = i) := @Nat.testBit_two_pow 63 i
      rw [t1]
      by_cases hi : 63 = i
      · subst hi
        have t3 : Nat.testBit b 63 = false := Nat.testBit_lt_two_pow (by omega)
        rw [t3]; rfl
      · simp [hi]
  exact hx

@[go_sem] theorem unary_neg_complex (k : FloatKind) (a b : Nat) : Op.unary .neg (.complex k a b) = pure (.complex k (Op.negFloat k a) (Op.negFloat k b)) := rfl

set_option maxRecDepth 100000 in
theorem section_any (x y z : Nat) (hx : x < 256) (hy : y < 256) (hz : z < 256) (w : World) : Calls Try.prog 68 #[.int .u8 x, .int .u8 y, .int .u8 z] w fun e w' => ∃ s1 s2 s3 s4 : C, e = .returned (.agg #[.complex .f64 4607182418800017408 0, .complex .f64 s1.1 s1.2, .complex .f64 s2.1 s2.2, .complex .f64 s3.1 s3.2, .complex .f64 s4.1 s4.2]) ∧ (wf s1 ∧ wf s2 ∧ wf s3 ∧ wf s4) ∧ (FinC s1 ∧ FinC s2 ∧ FinC s3 ∧ FinC s4) ∧ But [] w w' := by
  have ex1 := e8_EX (m := x % 16) (by omega)
  have ex2 := e8_EX (m := x / 16) (by omega)
  have ey1 := e8_EX (m := y % 16) (by omega)
  have ey2 := e8_EX (m := y / 16) (by omega)
  have ez1 := e8_EX (m := z % 16) (by omega)
  have ez2 := e8_EX (m := z / 16) (by omega)
  go_enter Try.func68, Try.ntmps68
  go_wp2_with fail
  refine (eighth_any x hx _).mono ?_
  intro e w1 hp
  obtain ⟨rfl, d1, rfl⟩ := hp.ex ex1 ex2
  clear hp
  go_wp2_with fail
  refine (half_any _ _ _).mono ?_
  intro e w1 hp
  obtain ⟨rfl, d2, rfl⟩ := hp.ex (h8_EX (m := x % 16) (by omega)) (h8_EX (m := x / 16) (by omega))
  clear hp
  go_wp2_with fail
  refine (eighth_any y hy _).mono ?_
  intro e w1 hp
  obtain ⟨rfl, d3, rfl⟩ := hp.ex ey1 ey2
  clear hp
  go_wp2_with fail
  refine (half_any _ _ _).mono ?_
  intro e w1 hp
  obtain ⟨rfl, d4, rfl⟩ := hp.ex (h8_EX (m := y % 16) (by omega)) (h8_EX (m := y / 16) (by omega))
  clear hp
  go_wp2_with fail
  refine (eighth_any z hz _).mono ?_
  intro e w1 hp
  obtain ⟨rfl, d5, rfl⟩ := hp.ex ez1 ez2
  clear hp
  have p1e : EX (N2 .quo (e8 (x % 16)) 4611686018427387904) (((x % 16 : Nat) : Int) - 7) 1070 := h8_EX (by omega)
  have p2e : EX (N2 .quo (e8 (x / 16)) 4611686018427387904) (((x / 16 : Nat) : Int) - 7) 1070 := h8_EX (by omega)
  have q1e : EX (N2 .quo (e8 (y % 16)) 4611686018427387904) (((y % 16 : Nat) : Int) - 7) 1070 := h8_EX (by omega)
  have q2e : EX (N2 .quo (e8 (y / 16)) 4611686018427387904) (((y / 16 : Nat) : Int) - 7) 1070 := h8_EX (by omega)
  generalize N2 BinOp.quo (e8 (x % 16)) 4611686018427387904 = p1 at *
  generalize N2 BinOp.quo (e8 (x / 16)) 4611686018427387904 = p2 at *
  generalize N2 BinOp.quo (e8 (y % 16)) 4611686018427387904 = q1 at *
  generalize N2 BinOp.quo (e8 (y / 16)) 4611686018427387904 = q2 at *
  generalize e8 (z % 16) = z1 at *
  generalize e8 (z / 16) = z2 at *
  have hsum : ∀ W, (binOp .add 25 (.complex .f64 p1 p2) (.complex .f64 q1 q2)).run Try.prog W = .ok (.complex .f64 (N2 .add p1 q1) (N2 .add p2 q2)) W := fun W => csum_fin 25 p1e.1 p2e.1 q1e.1 q2e.1 W
  have s1e := add_ex p1e q1e (by omega) (by omega)
  have s2e := add_ex p2e q2e (by omega) (by omega)
  generalize N2 BinOp.add p1 q1 = s1 at *
  generalize N2 BinOp.add p2 q2 = s2 at *
  have n1 := negFloat_ng z1 ez1.lt
  have n2 := negFloat_ng z2 ez2.lt
  have n3 := negFloat_ng s1 s1e.lt
  have n4 := negFloat_ng s2 s2e.lt
  have f1 := (ng_ex ez1).1
  have f2 := (ng_ex ez2).1
  have f3 := (ng_ex s1e).1
  have f4 := (ng_ex s2e).1
  have b1 : (((x % 16 : Nat) : Int) - 7).natAbs ≤ 8 := by omega
  have b2 : (((x / 16 : Nat) : Int) - 7).natAbs ≤ 8 := by omega
  have b3 : (((y % 16 : Nat) : Int) - 7).natAbs ≤ 8 := by omega
  have b4 : (((y / 16 : Nat) : Int) - 7).natAbs ≤ 8 := by omega
  have m1 := natAbs_mul_le b1 b3
  have m2 := natAbs_mul_le b2 b4
  have m3 := natAbs_mul_le b1 b4
  have m4 := natAbs_mul_le b2 b3
  have r1 := sub_ex (mul_ex (m := 1066) p1e q1e (by omega) rfl (by omega)) (mul_ex (m := 1066) p2e q2e (by omega) rfl (by omega)) (by omega) (by omega)
  have r2 := add_ex (mul_ex (m := 1066) p1e q2e (by omega) rfl (by omega)) (mul_ex (m := 1066) p2e q1e (by omega) rfl (by omega)) (by omega) (by omega)
  clear m1 m2 m3 m4 b1 b2 b3 b4 ex1 ex2 ey1 ey2
  go_wp2_with fail
  refine (mul_any _ _ _ _ _).mono ?_
  intro e w1 hp
  obtain ⟨rfl, d6, rfl⟩ := hp.ex r1 r2
  clear hp
  go_wp2_with fail
  have hf : ∀ u v, fin u → fin v → FinC (u, v) := fun u v hu hv => by unfold FinC; rw [finB_eq, decide_eq_true hu.2, decide_eq_true hv.2]; rfl
  refine bodyPost_ret (v := .agg #[.complex .f64 4607182418800017408 0, .complex .f64 (ng z1) (ng z2), .complex .f64 4598175219545276416 13826050856027422720, .complex .f64 (ng s1) (ng s2), .complex .f64 (MR p1 p2 q1 q2) (MI p1 p2 q1 q2)]) (by simp [results, Try.results68, go_sem]) rfl ?_
  refine ⟨(ng z1, ng z2), (4598175219545276416, 13826050856027422720), (ng s1, ng s2), (MR p1 p2 q1 q2, MI p1 p2 q1 q2), rfl, ⟨⟨f1.1, f2.1⟩, by simp [wf], ⟨f3.1, f4.1⟩, ⟨r1.lt, r2.lt⟩⟩, ⟨hf _ _ f1 f2, by unfold FinC; decide +kernel, hf _ _ f3 f4, hf _ _ r1.1 r2.1⟩, ?_⟩
  exact ((((((((But.refl _ _).alloc _).drewN _).setCell _ _ (.inr (Nat.le_refl _))).setCell _ _ (.inr (Nat.le_refl _))).setCell _ _ (.inr (Nat.le_refl _))).setCell _ _ (.inr (Nat.le_refl _))).setCell _ _ (.inr (Nat.le_refl _)))
end Go.Proofs.Ytnmpofjegepmaaa
