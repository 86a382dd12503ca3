/- A root's words: how near they are. -/
import Derived.Test.YtnmpofjegepmaaaR6
namespace Go.Proofs.Ytnmpofjegepmaaa.Mag
open Go.Proofs.Ytnmpofjegepmaaa.Fl
open Ieee

theorem win_ne {X a b : Nat} (h : Win X a b) (ha : 1 ≤ a) : X ≠ 0 := by
  have h1 := h.lo
  have h2 := ON0
  have h3 : 1 * ON ≤ a * ON := Nat.mul_le_mul_right _ ha
  omega
theorem mul00 {Y : Nat} (hY : Y < INF) : N2 .mul 0 Y = 0 ∧ N2 .mul Y 0 = 0 := by
  rw [mulp (by decide) hY, mulp hY (by decide), V_zero, Nat.zero_mul, Nat.mul_zero]
  unfold RN; simp
theorem pow_a (A y : Nat) : 2 * A * 2 ^ y = A * 2 ^ (y + 1) := by
  rw [Nat.pow_succ]
  generalize 2 ^ y = Z
  rw [Nat.mul_comm 2 A, Nat.mul_assoc, Nat.mul_comm 2 Z]
theorem pow_b (A y : Nat) : 2 ^ (y + 1) * A = 2 * A * 2 ^ y := by
  rw [pow_a, Nat.mul_comm]
set_option exponentiation.threshold 4000 in
/-- Half a number, twice a number: exact. -/
theorem mul_half {X : Nat} (h : 2 * ON ≤ X) (hX : X < INF) : N2 .mul X HALFw = X - ON := by
  have hV : Fl.V X = 2 * Fl.V (X - ON) := by
    have := V_dbl (X := X - ON) (by omega)
    rwa [show X - ON + ON = X by have := ON0; omega] at this
  have hr := RN_V (X - ON) (by omega)
  rw [mulp hX (by decide), half_bin, V_bin (by decide), hV]
  have hs := RN_scale (Fl.V (X - ON)) 1074 0
  rw [hr] at hs
  have e : 2 * Fl.V (X - ON) * 2 ^ (51 + 1022) = Fl.V (X - ON) * 2 ^ 1074 := by
    rw [show (51 + 1022 : Nat) = 1073 by decide]
    exact pow_a _ 1073
  rw [e]
  exact hs
set_option exponentiation.threshold 4000 in
theorem mul_twice {X : Nat} (h : ON ≤ X) (hX : X + ON < INF) : N2 .mul TWOw X = X + ON := by
  have hV := V_dbl h
  have hr := RN_V (X + ON) (by omega)
  rw [mulp (by decide) (by omega), two_bin, V_bin (by decide)]
  have hs := RN_scale (Fl.V (X + ON)) 1074 0
  rw [hr, hV] at hs
  have e : 2 ^ (51 + 1024) * Fl.V X = 2 * Fl.V X * 2 ^ 1074 := by
    rw [show (51 + 1024 : Nat) = 1075 by decide]
    exact pow_b _ 1074
  rw [e]
  exact hs
theorem mv_dbl {X : Nat} (h : ON ≤ X) : mv (X + ON) = mv X * 2 := by
  have h1 := mv_U (X + ON)
  have h2 := mv_U X
  rw [V_dbl h, Rat.natCast_mul, ← h2] at h1
  have h3 := UQ_pos
  have h4 : (mv (X + ON) - mv X * 2) * UQ = 0 := by grind
  rcases Rat.mul_eq_zero.1 h4 with h5 | h5 <;> grind

/-- A tame magnitude's square is near the sum of squares. -/
theorem abs_tame {M N t p s q : Nat} (hM : Win M 991 1054) (hN : N = 0 ∨ Win N 991 1054) (hNM : N ≤ M) (ht : t = N2 .quo N M) (hp : p = N2 .mul t t) (hq1 : ONEw ≤ q) (hq2 : q ≤ TWOw) (h3 : Ne (mv s) (mv ONEw + mv p) 1) (h4 : Ne (mv q * mv q) (mv s) 4) :
    Ne (mv (N2 .mul M q) * mv (N2 .mul M q)) (mv M * mv M + mv N * mv N) 10 ∧ Win (N2 .mul M q) 991 1055 := by
  have hON := ON0
  have hMI : M < INF := by have := hM.hi; rw [inf_bin]; omega
  have hqI : q < INF := Nat.lt_of_le_of_lt hq2 (by decide)
  have hqW : Win q 1023 1024 := ⟨by rw [← one_bin]; exact hq1, by rw [← two_bin]; exact hq2⟩
  obtain ⟨m1, m2, m3⟩ := mul_op hM hqW (by decide) (by decide) (by decide) (by decide) (by decide) (by decide)
  rw [← mulp hMI hqI] at m1 m2 m3
  refine ⟨?_, m2⟩
  obtain ⟨n1, n2⟩ : Ne (mv t * mv M) (mv N) 2 ∧ Ne (mv p) (mv t * mv t) 1 := by
    rcases hN with h0 | hN
    · subst h0
      rw [quo0 hMI (win_ne hM (by decide))] at ht
      subst ht
      rw [(mul00 (Y := 0) (by decide)).1] at hp
      subst hp
      rw [mv0]
      exact ⟨⟨by grind, by grind⟩, ⟨by grind, by grind⟩⟩
    · have hNI : N < INF := by omega
      obtain ⟨Q, k, e1, e2, e3, _⟩ := quop hNI hMI (win_ne hN (by decide)) (win_ne hM (by decide))
      obtain ⟨o1, o2, o3⟩ := quo_op hN hM (by decide) (by decide) (by decide) (by decide) (by decide) (by decide) e2 e3
      rw [← e1, ← ht] at o1 o2 o3
      obtain ⟨p1, p2, p3⟩ := mul_op o2 o2 (by decide) (by decide) (by decide) (by decide) (by decide) (by decide)
      rw [← mulp o1 o1, ← hp] at p3
      exact ⟨o3, p3⟩
  rw [mv_one] at h3
  exact abs_near (mv_nn M) (mv_nn N) (mv_le hNM) (mv_nn q) n1 n2 h3 h4 m3

set_option exponentiation.threshold 4000 in
/-- A root lies between binades, too. -/
theorem sqrt_win {w u : Nat} (hw : Win w 990 1055) (h : Ne (mv u * mv u) (mv w) 4) : Win u 1006 1040 := by
  have hx1 := hw.vlo (by decide)
  have hx2 := hi_V hw.hi (by decide)
  have w0 := mv_nn w
  have e1 := mr EP_small w0
  obtain ⟨a1, a2⟩ := h
  have u1 : mv u * mv u ≤ 2 * mv w := by grind
  have u2 : mv w ≤ 2 * (mv u * mv u) := by grind
  have UU := Rat.le_of_lt (Rat.mul_pos UQ_pos UQ_pos)
  obtain ⟨z, hz⟩ : ∃ z, z = 1074 := ⟨_, rfl⟩
  have hU : ((2 ^ z : Nat) : Rat) = UQ := by rw [hz]; exact UQ_eq
  have k1 : Fl.V u * Fl.V u ≤ 2 * (Fl.V w * 2 ^ z) := by
    have : ((Fl.V u * Fl.V u : Nat) : Rat) ≤ ((2 * (Fl.V w * 2 ^ z) : Nat) : Rat) := by
      rw [Rat.natCast_mul, Rat.natCast_mul, Rat.natCast_mul, hU, ← mv_U, ← mv_U]
      have := mr u1 UU
      have e2 : ((2 : Nat) : Rat) = 2 := rfl
      rw [e2]
      grind
    exact_mod_cast this
  have k2 : Fl.V w * 2 ^ z ≤ 2 * (Fl.V u * Fl.V u) := by
    have : ((Fl.V w * 2 ^ z : Nat) : Rat) ≤ ((2 * (Fl.V u * Fl.V u) : Nat) : Rat) := by
      rw [Rat.natCast_mul, Rat.natCast_mul, Rat.natCast_mul, hU, ← mv_U, ← mv_U]
      have := mr u2 UU
      have e2 : ((2 : Nat) : Rat) = 2 := rfl
      rw [e2]
      grind
    exact_mod_cast this
  have l1 : 2 ^ (51 + 990 + z) ≤ Fl.V w * 2 ^ z := by rw [Nat.pow_add]; exact Nat.mul_le_mul_right _ hx1
  have l2 : Fl.V w * 2 ^ z ≤ 2 ^ (51 + 1055 + z) := by rw [Nat.pow_add]; exact Nat.mul_le_mul_right _ hx2
  constructor
  · rcases Nat.lt_or_ge u (1006 * ON) with h1 | h1
    · exfalso
      have h2 := V_lt h1
      rw [V_bin (by decide)] at h2
      obtain ⟨y, hy⟩ : ∃ y, y = 51 + 1006 := ⟨_, rfl⟩
      rw [← hy] at h2
      have h3 : Fl.V u * Fl.V u < 2 ^ y * 2 ^ y := Nat.mul_lt_mul'' h2 h2
      have h4 : 2 ^ (y + y + 1) ≤ 2 ^ (51 + 990 + z) := Nat.pow_le_pow_right (by decide) (by omega)
      rw [Nat.pow_add 2 (y + y) 1, Nat.pow_add 2 y y] at h4
      omega
    · exact h1
  · rcases Nat.lt_or_ge (1040 * ON) u with h1 | h1
    · exfalso
      have h2 := V_lt h1
      rw [V_bin (by decide)] at h2
      obtain ⟨y, hy⟩ : ∃ y, y = 51 + 1040 := ⟨_, rfl⟩
      rw [← hy] at h2
      have h3 : 2 ^ y * 2 ^ y < Fl.V u * Fl.V u := Nat.mul_lt_mul'' h2 h2
      have h4 : 2 ^ (51 + 1055 + z + 1) ≤ 2 ^ (y + y) := Nat.pow_le_pow_right (by decide) (by omega)
      rw [Nat.pow_add 2 (51 + 1055 + z) 1, Nat.pow_add 2 y y] at h4
      omega
    · exact h1
end Go.Proofs.Ytnmpofjegepmaaa.Mag
