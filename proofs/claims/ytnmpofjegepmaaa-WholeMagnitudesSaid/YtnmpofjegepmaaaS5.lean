/- math.Max; quotients by 1 and i; the root of nought. -/
import Derived.Test.YtnmpofjegepmaaaS4
namespace Go.Proofs.Ytnmpofjegepmaaa
open Go.RowKit Go.Proofs.Ytnmpofjegepmaaa.Fl Go.Proofs.Ytnmpofjegepmaaa.Pt Go.Proofs.Ytnmpofjegepmaaa.Mag

theorem pick_case (x y : Nat) : Extern.MathDim.pick "math.archMax" false .gt #[.float .f64 x, .float .f64 y] = pure (.float .f64 (if FloatKind.f64.decode x == .infinity false || FloatKind.f64.decode y == .infinity false then FloatKind.f64.encode (.infinity false)
      else if (FloatKind.f64.decode x).isNaN || (FloatKind.f64.decode y).isNaN then 0x7FF8000000000001
      else if (FloatKind.f64.decode x).isZero && (FloatKind.f64.decode y).isZero then (if (FloatKind.f64.decode x).neg == false then x else y)
      else if (FloatKind.f64.decode x).order (FloatKind.f64.decode y) == some .gt then x else y)) := rfl
theorem max_run {X Y : Nat} (hX : X < INF) (hY : Y < INF) (w : World) : (callFunc 102 #[.float .f64 X, .float .f64 Y]).run Try.prog w = .ok (.value (.float .f64 (max X Y))) w := by
  have e : (callFunc 102 #[.float .f64 X, .float .f64 Y]).run Try.prog w = (Extern.MathDim.pick "math.archMax" false .gt #[.float .f64 X, .float .f64 Y] >>= fun v => pure (Next.value v)).run Try.prog w := by kernel_rfl
  rw [e, pick_case]
  have dx : FloatKind.f64.decode X = .number false (mg X) (-1074 + (sh X : Int)) := by
    have := read_fin (finw hX)
    rw [posw hX, modw hX] at this
    exact this
  have dy : FloatKind.f64.decode Y = .number false (mg Y) (-1074 + (sh Y : Int)) := by
    have := read_fin (finw hY)
    rw [posw hY, modw hY] at this
    exact this
  have ho : (FloatKind.f64.decode X).order (FloatKind.f64.decode Y) = some (compare (X : Int) (Y : Int)) := ordw hX hY
  have hr : (if FloatKind.f64.decode X == .infinity false || FloatKind.f64.decode Y == .infinity false then FloatKind.f64.encode (.infinity false)
      else if (FloatKind.f64.decode X).isNaN || (FloatKind.f64.decode Y).isNaN then 0x7FF8000000000001
      else if (FloatKind.f64.decode X).isZero && (FloatKind.f64.decode Y).isZero then (if (FloatKind.f64.decode X).neg == false then X else Y)
      else if (FloatKind.f64.decode X).order (FloatKind.f64.decode Y) == some .gt then X else Y) = max X Y := by
    rw [ho]
    have z : ∀ {Z : Nat}, Z < INF → FloatKind.f64.decode Z = .number false (mg Z) (-1074 + (sh Z : Int)) → (FloatKind.f64.decode Z).isZero = true → Z = 0 := by
      intro Z hZ dz h
      rw [dz] at h
      have h1 : mg Z = 0 := by
        generalize mg Z = m at h ⊢
        cases m with
        | zero => rfl
        | succ n => cases h
      apply V_inj
      rw [V_zero]; unfold Fl.V; rw [h1, Nat.zero_mul]
    by_cases hz : ((FloatKind.f64.decode X).isZero && (FloatKind.f64.decode Y).isZero) = true
    · have h1 := z hX dx (by simp at hz; exact hz.1)
      have h2 := z hY dy (by simp at hz; exact hz.2)
      subst h1 h2
      decide
    · rw [if_neg hz, dx, dy]
      have n1 : ((Ieee.Datum.number false (mg X) (-1074 + (sh X : Int)) == .infinity false) || (Ieee.Datum.number false (mg Y) (-1074 + (sh Y : Int)) == .infinity false)) = false := rfl
      have n2 : ((Ieee.Datum.number false (mg X) (-1074 + (sh X : Int))).isNaN || (Ieee.Datum.number false (mg Y) (-1074 + (sh Y : Int))).isNaN) = false := rfl
      rw [n1, n2]
      simp only [Bool.false_eq_true, if_false]
      rcases Int.lt_trichotomy (X : Int) (Y : Int) with h | h | h
      · rw [cmp_lt h]; simp; omega
      · rw [cmp_eq h]; simp; omega
      · rw [cmp_gt h]; simp; omega
  rw [hr]
  rfl
theorem mmax_any {X Y : Nat} (hX : X < INF) (hY : Y < INF) (w : World) : Calls Try.prog 67 #[.float .f64 X, .float .f64 Y] w fun e w' => e = .returned (.float .f64 (max X Y)) ∧ w' = w := by
  have hrun := max_run hX hY
  go_enter Try.func67, Try.ntmps67
  go_wp2
  go_ret
  exact ⟨rfl, rfl⟩

/-- A word as a whole multiple of a power of two. -/
theorem ex_word {x : Nat} (h : fin x) (ht : Tm (x % SG)) : ∃ A k, EX x A k ∧ A.natAbs < 9007199254740992 ∧ k ≤ 2000 := by
  refine ⟨sg (decide (SG ≤ x)) (mg (x % SG)), sh (x % SG), ⟨h, ?_⟩, ?_, ?_⟩
  · unfold ky Fl.V; rw [sg_mul]
  · have h1 := mg_lt (x % SG)
    have h2 : (sg (decide (SG ≤ x)) (mg (x % SG))).natAbs = mg (x % SG) := by unfold sg; split <;> simp
    rw [h2]
    exact h1
  · have h1 : x % SG ≤ 1900 * ON := ht.lt
    have h2 := sh_mono h1
    have h3 : sh (1900 * ON) = 1899 := by
      have := sh_mk (s := 1899) (M := ON) (Nat.le_refl _) (by have := ON0; omega)
      rw [← this, Nat.succ_mul]
    omega
theorem EX.zero {x : Nat} {k : Nat} (h : EX x 0 k) (l : Nat) : EX x 0 l := ⟨h.1, by rw [h.2, Int.zero_mul, Int.zero_mul]⟩
theorem EX.ord {x y : Nat} {a : Int} {k : Nat} (hx : EX x a k) (hy : EX y a k) : FloatKind.f64.format.order x y = some Ordering.eq := by
  rw [ord_ky hx.1 hy.1, hx.2, hy.2, cmp_eq rfl]

/-- Two parts that are equal by '=='. -/
def EqP (a b : Nat) (w : World) (e : Ending) (w' : World) : Prop := ∃ re im n, e = .returned (.complex .f64 re im) ∧ w' = w.drewN n ∧ re < 18446744073709551616 ∧ im < 18446744073709551616 ∧ FloatKind.f64.format.order re a = some Ordering.eq ∧ FloatKind.f64.format.order im b = some Ordering.eq
theorem CPost.eqp {x y a b : Nat} {A B : Int} {k l : Nat} {w w' : World} {e : Ending} (h : CPost x y w e w') (hx : EX x A k) (hy : EX y B l) (ha : EX a A k) (hb : EX b B l) : EqP a b w e w' := by
  obtain ⟨re, im, n, h1, h2, h3, h4, h5, h6⟩ := h
  exact ⟨re, im, n, h1, h2, h3, h4, (EX.of_cn h5 hx).ord ha, (EX.of_cn h6 hy).ord hb⟩
theorem div1_any {a b : Nat} (fa : fin a) (fb : fin b) (ta : Tm (a % SG)) (tb : Tm (b % SG)) (w : World) :
    Calls Try.prog 63 #[.complex .f64 a b, .complex .f64 4607182418800017408 0] w (EqP a b w) := by
  obtain ⟨A, k, ha, hA, hk⟩ := ex_word fa ta
  obtain ⟨B, l, hb, hB, hl⟩ := ex_word fb tb
  refine (div_ge a b 4607182418800017408 0 (by decide) (by decide) w (.inl (w_ge 0 (by omega)))).mono fun r w' h => ?_
  rw [show (4607182418800017408 : Nat) = W2 0 from rfl] at h
  rw [z_quo 0 (by omega), z_add 0 (by omega)] at h
  have m1 := mul_ex (m := l) hb (z_ex 1074) (by simp) (by omega) (by omega)
  have m2 := mul_ex (m := k) ha (z_ex 1074) (by simp) (by omega) (by omega)
  rw [Int.mul_zero] at m1 m2
  have s1 := add_ex ha (m1.zero k) (by simpa using hA) (by omega)
  have s2 := sub_ex hb (m2.zero l) (by simpa using hB) (by omega)
  rw [Int.add_zero] at s1
  rw [Int.sub_zero] at s2
  exact h.eqp (quo_ex (m := k) s1 hA (by omega) (by omega) (by omega)) (quo_ex (m := l) s2 hB (by omega) (by omega) (by omega)) ha hb
/-- (-b + a i) / i = a + b i. -/
theorem divi1_any {a b : Nat} (fa : fin a) (fb : fin b) (ta : Tm (a % SG)) (tb : Tm (b % SG)) (w : World) :
    Calls Try.prog 63 #[.complex .f64 (ng b) a, .complex .f64 0 4607182418800017408] w (EqP a b w) := by
  obtain ⟨A, k, ha, hA, hk⟩ := ex_word fa ta
  obtain ⟨B, l, hb, hB, hl⟩ := ex_word fb tb
  have hn := ng_ex hb
  refine (div_lt (ng b) a 0 4607182418800017408 (by decide) (by decide) w (w_lt 0 (by omega))).mono fun r w' h => ?_
  rw [show (4607182418800017408 : Nat) = W2 0 from rfl] at h
  rw [z_quo 0 (by omega), z_add 0 (by omega)] at h
  have m1 := mul_ex (m := l) hn (z_ex 1074) (by simp) (by omega) (by omega)
  have m2 := mul_ex (m := k) ha (z_ex 1074) (by simp) (by omega) (by omega)
  rw [Int.mul_zero] at m1 m2
  have s1 := add_ex (m1.zero k) ha (by simpa using hA) (by omega)
  have s2 := sub_ex (m2.zero l) hn (by simpa using hB) (by omega)
  rw [Int.zero_add] at s1
  rw [Int.zero_sub, Int.neg_neg] at s2
  exact h.eqp (quo_ex (m := k) s1 hA (by omega) (by omega) (by omega)) (quo_ex (m := l) s2 hB (by omega) (by omega) (by omega)) ha hb

theorem csqrt0_any {re im : Nat} (hre : re % SG = 0) (him : im % SG = 0) (fre : fin re) (fim : fin im) (w : World) :
    Calls Try.prog 65 #[.complex .f64 re im] w fun e w' => e = .returned (.complex .f64 0 im) ∧ w' = w := by
  have hf := finB_fin fre fim
  have lu := fre.1
  have lv := fim.1
  have a1 := abs_any re lu
  have a2 := abs_any im lv
  rw [show re % 9223372036854775808 = 0 from hre] at a1
  rw [show im % 9223372036854775808 = 0 from him] at a2
  have HF := Lib.hid hf
  have A1 := Lib.hid a1
  have A2 := Lib.hid a2
  clear hf a1 a2 hre him
  have o0 : FloatKind.f64.format.order 0 0 = some Ordering.eq := by decide +kernel
  have m1 := run_max_00
  go_enter Try.func65, Try.ntmps65
  go_wp2_with fail
  refine (finite_any re im lu lv _).mono ?_
  rintro e w' ⟨rfl, rfl⟩
  rw [HF.out]
  go_wp2_with fail
  refine (A1.out _).mono ?_
  rintro e w' ⟨rfl, rfl⟩
  go_wp2_with fail
  refine (A2.out _).mono ?_
  rintro e w' ⟨rfl, rfl⟩
  go_wp2_with fail
  go_ret
  exact ⟨rfl, rfl⟩
end Go.Proofs.Ytnmpofjegepmaaa
