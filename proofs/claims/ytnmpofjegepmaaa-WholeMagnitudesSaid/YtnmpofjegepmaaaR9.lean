/- A root, squared, lies near the number: the words. -/
import Derived.Test.YtnmpofjegepmaaaR8
namespace Go.Proofs.Ytnmpofjegepmaaa.Mag
open Go.Proofs.Ytnmpofjegepmaaa.Fl
open Ieee

theorem sub_word {x y : Nat} (hy : y < 18446744073709551616) : N2 .sub x y = N2 .add x (ng y) := by
  show (double.sub x y).getD QN = (double.add x (ng y)).getD QN
  rw [sub_eq hy]
theorem quo0s {x Y : Nat} (hx : fin x) (h0 : x % SG = 0) (hY : Y < INF) (h1 : Y ≠ 0) : N2 .quo x Y = wd (decide (SG ≤ x)) 0 := by
  have hmg : mg Y ≠ 0 := by
    intro h
    apply h1
    apply V_inj
    rw [V_zero]; unfold Fl.V; rw [h, Nat.zero_mul]
  have hq : double.div x Y = some (wd (decide (SG ≤ x)) 0) := by
    unfold Format.div
    rw [read_fin hx, read_fin (finw hY), posw hY, modw hY, h0]
    unfold Datum.quotient
    simp only
    rw [if_neg hmg]
    have hm0 : mg 0 = 0 := by decide
    rw [hm0]
    simp only [Nat.zero_shiftLeft, Nat.zero_div, Nat.zero_mod, Option.map_some, bne_self_eq_false, Bool.toNat_false, Nat.mul_zero, Nat.add_zero, Bool.xor_false]
    rw [write_number]
    unfold RN; simp
  exact N2_of (op := .quo) hq
set_option exponentiation.threshold 4000 in
theorem mv_hi {X b : Nat} (h : X ≤ (1023 + b) * ON) : mv X ≤ ((2 ^ b : Nat) : Rat) := by
  have h1 := hi_V h (by omega)
  apply leU
  have h2 : ((Fl.V X : Nat) : Rat) ≤ ((2 ^ b * 2 ^ 1074 : Nat) : Rat) := by
    have : Fl.V X ≤ 2 ^ b * 2 ^ 1074 := by rw [← Nat.pow_add, show b + 1074 = 51 + (1023 + b) by omega]; exact h1
    exact_mod_cast this
  rw [Rat.natCast_mul, UQ_eq, ← mv_U] at h2
  exact h2

theorem mv_pos {X : Nat} (h : X ≠ 0) : 0 < mv X := by
  have h1 := mv_nn X
  by_cases h2 : 0 < mv X
  · exact h2
  · exfalso
    have h3 : mv X = 0 := by grind
    have h4 := mv_U X
    rw [h3, Rat.zero_mul] at h4
    have h5 : Fl.V X = 0 := by exact_mod_cast h4.symm
    exact h (V_inj (h5.trans V_zero.symm))
set_option exponentiation.threshold 4000 in
theorem sqrt_all {w a b : Nat} (h : Win w a b) (ha : 849 ≤ a) (hb : b ≤ 1079) (hw : w < INF) : ∃ u, double.sqrt w = some u ∧ u < INF ∧ Ne (mv u * mv u) (mv w) 4 := by
  have h1 : a * ON ≤ w := h.lo
  have h2 : w ≤ b * ON := h.hi
  have h3 := Nat.mul_le_mul_right ON ha
  have h4 := Nat.mul_le_mul_right ON hb
  have h5 := ON0
  obtain ⟨Q, P, pp, b1, b2, b3, b4, b5, _⟩ := sqrt_word (finw hw) (Nat.lt_trans hw INF_SG) (Nat.le_trans h3 h1) (Nat.lt_of_le_of_lt (Nat.le_trans h2 h4) (Nat.mul_lt_mul_of_pos_right (show 1079 < 1080 by decide) h5))
  obtain ⟨c1, c2⟩ := sqrt_op h ha hb b2 b3 b4 b5
  exact ⟨_, b1, c1, c2⟩
theorem root_words {R I A im : Nat} (him : fin im) (hI : im % SG = I) (tI : I = 0 ∨ Win I 991 1054) (hA : Win A 991 1055) (hRA : R ≤ A) (hN : Ne (mv A * mv A) (mv R * mv R + mv I * mv I) 10) :
    ∃ u v X, double.sqrt (N2 .mul (N2 .add R A) HALFw) = some u ∧ v = N2 .quo im (N2 .mul TWOw u) ∧ u < INF ∧ ON ≤ u ∧ v = wd (decide (SG ≤ im)) X ∧ X < INF ∧
      N2 .mul u u < INF ∧ N2 .mul X X < INF ∧ N2 .mul u X < INF ∧ (N2 .add R A < INF ∧ N2 .mul (N2 .add R A) HALFw < INF ∧ N2 .mul TWOw u < INF) ∧
      (mv (N2 .mul u u) - mv (N2 .mul X X) - mv R ≤ 132 / 10 * EP * mv A ∧ -(132 / 10 * EP * mv A) ≤ mv (N2 .mul u u) - mv (N2 .mul X X) - mv R) ∧ Ne (mv (N2 .mul u X) * 2) (mv I) (301 / 100) := by
  have hON := ON0
  have hAI : A < INF := by have := hA.hi; rw [inf_bin]; omega
  have hRI : R < INF := by omega
  obtain ⟨a1, a2, a3, a4, a5⟩ := add_op (X := R) (Y := A) (b := 1055) (Nat.le_trans hRA hA.hi) hA.hi (by decide) (by decide)
  rw [← addp hRI hAI] at a1 a2 a3 a4 a5
  have wI := a1
  generalize N2 .add R A = w1 at *
  have hw1 : 991 * ON ≤ w1 := Nat.le_trans hA.lo a3
  have hwh := mul_half (X := w1) (by omega) a1
  rw [hwh]
  have hww : w1 - ON + ON = w1 := by omega
  have hmw := mv_dbl (X := w1 - ON) (by omega)
  rw [hww] at hmw
  have hwW : Win (w1 - ON) 990 1055 := ⟨by omega, by omega⟩
  have hwI : w1 - ON < INF := by omega
  generalize w1 - ON = w at *
  obtain ⟨u, b1, c1, c2⟩ := sqrt_all hwW (by decide) (by decide) hwI
  have hu := sqrt_win hwW c2
  have hu1 : ON ≤ u := by have := hu.lo; omega
  have hd := mul_twice hu1 (by have := hu.hi; rw [inf_bin]; omega)
  have hdI : u + ON < INF := by have := hu.hi; rw [inf_bin]; omega
  have hdW : Win (u + ON) 1007 1041 := ⟨by have := hu.lo; omega, by have := hu.hi; omega⟩
  have hmd := mv_dbl hu1
  obtain ⟨x1a, x1b, x1c⟩ := mul_op hu hu (by decide) (by decide) (by decide) (by decide) (by decide) (by decide)
  rw [← mulp c1 c1] at x1a x1b x1c
  -- the other part
  obtain ⟨X, e1, e2, e3, e4, e5, e6, e7⟩ : ∃ X, N2 .quo im (u + ON) = wd (decide (SG ≤ im)) X ∧ X < INF ∧ Ne (mv X * mv (u + ON)) (mv I) 2 ∧ N2 .mul X X < INF ∧ Ne (mv (N2 .mul X X)) (mv X * mv X) 1 ∧ N2 .mul u X < INF ∧ Ne (mv (N2 .mul u X)) (mv u * mv X) 1 := by
    rcases tI with h0 | hIW
    · refine ⟨0, quo0s him (by omega) hdI (by omega), by decide, ?_, ?_, ?_, ?_, ?_⟩
      · rw [h0, mv0]; exact ⟨by grind, by grind⟩
      · rw [(mul00 (Y := 0) (by decide)).1]; decide
      · rw [(mul00 (Y := 0) (by decide)).1, mv0]; exact ⟨by grind, by grind⟩
      · rw [(mul00 c1).2]; decide
      · rw [(mul00 c1).2, mv0]; exact ⟨by grind, by grind⟩
    · have hVI : Fl.V (im % SG) ≠ 0 := by rw [hI]; exact fun h => win_ne hIW (by decide) (V_inj (h.trans V_zero.symm))
      have hVd : Fl.V ((u + ON) % SG) ≠ 0 := by rw [modw hdI]; exact fun h => win_ne hdW (by decide) (V_inj (h.trans V_zero.symm))
      obtain ⟨Q, k, s, q1, q2, q3, q4, _⟩ := quo_word him (finw hdI) hVI hVd
      rw [modw hdI, hI] at q3 q4
      rw [posw hdI, Bool.xor_false] at q2
      obtain ⟨o1, o2, o3⟩ := quo_op hIW hdW (by decide) (by decide) (by decide) (by decide) (by decide) (by decide) q3 q4
      generalize RN Q (-((k : Nat) : Int)) = X at *
      obtain ⟨r1, _, r3⟩ := mul_op o2 o2 (by decide) (by decide) (by decide) (by decide) (by decide) (by decide)
      obtain ⟨s1, _, s3⟩ := mul_op hu o2 (by decide) (by decide) (by decide) (by decide) (by decide) (by decide)
      rw [← mulp o1 o1] at r1 r3
      rw [← mulp c1 o1] at s1 s3
      exact ⟨X, by rw [q1, q2], o1, o3, r1, r3, s1, s3⟩
  refine ⟨u, N2 .quo im (N2 .mul TWOw u), X, b1, rfl, c1, hu1, by rw [hd]; exact e1, e2, x1a, e4, e6, ⟨wI, hwI, by rw [hd]; exact hdI⟩, ?_, ?_⟩
  · have hm1 := mv_nn u
    have hm2 := mv_nn X
    have hm3 := mv_nn I
    have hm4 := mv_nn R
    have hA0 : 0 < mv A := mv_pos (win_ne hA (by decide))
    have n1 : Ne (mv u * mv u * 2) (mv R + mv A) (501 / 100) := by
      have g1 : Ne (mv u * mv u * 2) (mv w * 2) 4 := c2.scale (by decide)
      rw [← hmw] at g1
      exact (g1.trans a5 (by grind) (by decide) (by decide) (by decide) (by decide)).more (by grind) (by decide +kernel)
    have n2 : Ne (4 * (mv u * mv u) * (mv X * mv X)) (mv I * mv I) (401 / 100) := by
      have g1 := e3.mul e3 hm3 hm3 (by decide) (by decide) (by decide) (by decide)
      rw [hmd] at g1
      exact ((g1.more (mn hm3 hm3) (show _ ≤ (401 / 100 : Rat) by decide +kernel)).eq (by grind) rfl)
    have hU0 : 0 < mv u * mv u := by
      have h1 := n1.1
      have h2 := EP_small
      have h3 := mr h2 (show 0 ≤ mv R + mv A by grind)
      grind
    obtain ⟨g1, g2⟩ := root_near hm4 hm3 hA0 (mv_le hRA) hU0 hN n1 n2
    exact real_near hm4 hA0 (mv_le hRA) (Rat.le_of_lt hU0) (mn hm2 hm2) n1 g1 g2 x1c e5
  · have g1 : Ne (mv (N2 .mul u X) * 2) (mv u * mv X * 2) 1 := e7.scale (by decide)
    have g2 : Ne (mv u * mv X * 2) (mv I) 2 := by rw [hmd] at e3; exact e3.eq (by grind) rfl
    exact (g1.trans g2 (mv_nn I) (by decide) (by decide) (by decide) (by decide)).more (mv_nn I) (by decide +kernel)
end Go.Proofs.Ytnmpofjegepmaaa.Mag
