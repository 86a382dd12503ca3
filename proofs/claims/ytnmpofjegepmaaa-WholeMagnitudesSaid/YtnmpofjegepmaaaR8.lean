/- Signed sums, near the exact one. -/
import Derived.Test.YtnmpofjegepmaaaR7
namespace Go.Proofs.Ytnmpofjegepmaaa.Mag
open Go.Proofs.Ytnmpofjegepmaaa.Fl
open Ieee

/-- A word's value. -/
def rv (b : Nat) : Rat := ((ky b : Int) : Rat) / UQ
theorem rv_U (b : Nat) : rv b * UQ = ((ky b : Int) : Rat) := by
  unfold rv; exact Rat.div_mul_cancel (by have := UQ_pos; grind)
theorem cancelU {a b : Rat} (h : a * UQ = b * UQ) : a = b := by
  have h3 := UQ_pos
  have h4 : (a - b) * UQ = 0 := by grind
  rcases Rat.mul_eq_zero.1 h4 with h5 | h5 <;> grind
theorem leU {a b : Rat} (h : a * UQ ≤ b * UQ) : a ≤ b := Rat.le_of_mul_le_mul_right h UQ_pos
theorem rv_wd (s : Bool) {X : Nat} (h : X < INF) : rv (wd s X) = if s then -mv X else mv X := by
  have h1 := ky_wd s (Nat.lt_trans h INF_SG)
  have h2 := rv_U (wd s X)
  have h3 := mv_U X
  rw [h1] at h2
  cases s
  · apply cancelU
    have e : ((sg false (Fl.V X) : Int) : Rat) = (Fl.V X : Rat) := rfl
    rw [e] at h2
    simp only [Bool.false_eq_true, if_false]
    grind
  · apply cancelU
    have e : ((sg true (Fl.V X) : Int) : Rat) = -(Fl.V X : Rat) := by
      have : sg true (Fl.V X) = -(Fl.V X : Int) := rfl
      rw [this, Rat.intCast_neg]; rfl
    rw [e] at h2
    simp only [if_true]
    grind
theorem rv_pos {X : Nat} (h : X < INF) : rv X = mv X := by
  have := rv_wd false h
  rw [wd_false] at this
  simpa using this
theorem rv_ng {b : Nat} (h : b < 18446744073709551616) : rv (ng b) = -rv b := by
  apply cancelU
  have h1 := rv_U (ng b)
  have h2 := rv_U b
  rw [ky_ng h, Rat.intCast_neg] at h1
  grind
theorem wd_self {b : Nat} (h : fin b) : wd (decide (SG ≤ b)) (b % SG) = b := by
  have h1 := h.1
  have h2 : SG = 9223372036854775808 := rfl
  unfold wd
  by_cases h3 : SG ≤ b
  · simp only [h3, decide_true, if_true]; rw [h2] at *; omega
  · simp only [h3, decide_false, Bool.false_eq_true, if_false]; rw [h2] at *; omega
theorem rv_sgn {b : Nat} (h : fin b) : rv b = if decide (SG ≤ b) then -mv (b % SG) else mv (b % SG) := by
  have := rv_wd (decide (SG ≤ b)) h.2
  rwa [wd_self h] at this
theorem mag_le {b : Nat} {D : Rat} (h : fin b) (h1 : rv b ≤ D) (h2 : -D ≤ rv b) : mv (b % SG) ≤ D := by
  have h3 := rv_sgn h
  cases hs : decide (SG ≤ b)
  · rw [hs] at h3; simp only [Bool.false_eq_true, if_false] at h3; grind
  · rw [hs] at h3; simp only [if_true] at h3; grind
theorem rv_mag {b : Nat} {D : Rat} (h : fin b) (h1 : mv (b % SG) ≤ D) : rv b ≤ D ∧ -D ≤ rv b := by
  have h3 := rv_sgn h
  have h4 := mv_nn (b % SG)
  cases hs : decide (SG ≤ b)
  · rw [hs] at h3; simp only [Bool.false_eq_true, if_false] at h3; exact ⟨by grind, by grind⟩
  · rw [hs] at h3; simp only [if_true] at h3; exact ⟨by grind, by grind⟩

theorem negle {a b c : Rat} (h : -a * c ≤ b * c) : -(b * c) ≤ a * c := by grind
set_option exponentiation.threshold 4000 in
/-- The sum of two words, near the exact one. -/
theorem sum_op {x y E : Nat} {D : Rat} (hx : fin x) (hy : fin y) (h1 : rv x + rv y ≤ D) (h2 : -D ≤ rv x + rv y) (hE : E ≤ 900) (hD : D ≤ ((2 ^ E : Nat) : Rat)) :
    fin (N2 .add x y) ∧ rv (N2 .add x y) ≤ rv x + rv y + EP * D ∧ rv x + rv y - EP * D ≤ rv (N2 .add x y) := by
  have hw := add_word hx hy
  obtain ⟨z, hz⟩ : ∃ z, z = ky x + ky y := ⟨_, rfl⟩
  rw [← hz] at hw
  have hzr : ((z : Int) : Rat) = (rv x + rv y) * UQ := by
    rw [hz, Rat.intCast_add, ← rv_U, ← rv_U]; grind
  generalize hn : z.natAbs = n at *
  have hnz : ((n : Nat) : Rat) = ((z : Int) : Rat) ∧ 0 ≤ z ∨ ((n : Nat) : Rat) = -((z : Int) : Rat) ∧ z < 0 := by
    by_cases h0 : 0 ≤ z
    · left
      have h3 : (n : Int) = z := by omega
      refine ⟨?_, h0⟩
      rw [← h3]; rfl
    · right
      have h3 : (n : Int) = -z := by omega
      refine ⟨?_, by omega⟩
      rw [← Rat.intCast_neg, ← h3]; rfl
  have U0 := Rat.le_of_lt UQ_pos
  have hnD : ((n : Nat) : Rat) ≤ D * UQ := by
    have a1 := mr h1 U0
    have a2 := mr h2 U0
    rcases hnz with ⟨h3, _⟩ | ⟨h3, _⟩
    · rw [h3, hzr]; exact a1
    · rw [h3, hzr]; exact negle a2
  have hnE : n ≤ 2 ^ (E + 1074) := by
    have a1 := mr hD U0
    have a2 : ((n : Nat) : Rat) ≤ ((2 ^ (E + 1074) : Nat) : Rat) := by
      rw [Nat.pow_add, Rat.natCast_mul, UQ_eq]; grind
    exact_mod_cast a2
  have hf : RN n (-((0 : Nat) : Int)) < INF := RN_fin (E := E + 1074) (by omega) (by rw [Nat.pow_zero, Nat.mul_one]; exact hnE)
  have n1 : Ne ((Fl.V (RN n (-((0 : Nat) : Int))) : Nat) : Rat) ((n : Nat) : Rat) 1 := by
    by_cases hsm : n < 2 * ON
    · rw [RN_small hsm, V_flat hsm]
      exact Ne.refl _ (by exact_mod_cast Nat.zero_le _) (by decide)
    · have he : 2 ^ 52 * 2 ^ 0 ≤ n := by rw [Nat.pow_zero, Nat.mul_one, ← ON_pow]; omega
      obtain ⟨e1, e2⟩ := RN_err he hf
      rw [Nat.pow_zero, Nat.mul_one] at e1 e2
      exact Ne.of_nat e1 e2
  have hn0 : n = 0 → RN n (-((0 : Nat) : Int)) = 0 := by intro h; rw [h]; unfold RN; simp
  generalize RN n (-((0 : Nat) : Int)) = r at *
  rw [hw]
  refine ⟨fin_wd _ hf, ?_⟩
  rw [rv_wd _ hf]
  rw [← mv_U] at n1
  obtain ⟨b1, b2⟩ := n1
  have e := Rat.le_of_lt EP_pos
  have c1 := ml hnD e
  by_cases hz0 : z = 0
  · have h3 : n = 0 := by omega
    have h4 := hn0 h3
    subst h4
    rw [mv0]
    have h5 : rv x + rv y = 0 := by
      apply cancelU; rw [← hzr, hz0, Rat.zero_mul]; rfl
    rw [h5]
    have h6 : 0 ≤ D := by grind
    have h7 := mn e h6
    have h8 : (-0 : Rat) = 0 := Rat.neg_zero
    split <;> exact ⟨by grind, by grind⟩
  · rcases hnz with ⟨h3, h4⟩ | ⟨h3, h4⟩
    · have h5 : decide (z < 0) = false := by simp; omega
      rw [if_neg hz0, h5]
      simp only [Bool.false_eq_true, if_false]
      rw [h3, hzr] at b1 b2
      rw [h3, hzr] at c1
      constructor
      · apply leU; grind
      · apply leU; grind
    · have h5 : decide (z < 0) = true := by simpa using h4
      rw [if_neg hz0, h5]
      simp only [if_true]
      rw [h3, hzr] at b1 b2
      rw [h3, hzr] at c1
      constructor
      · apply leU; grind
      · apply leU; grind
end Go.Proofs.Ytnmpofjegepmaaa.Mag
