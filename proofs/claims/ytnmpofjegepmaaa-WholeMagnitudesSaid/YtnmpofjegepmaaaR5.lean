/- How far rounding goes in a magnitude and in a root: the plain law, in rational numbers. -/
import Derived.Test.YtnmpofjegepmaaaR3
namespace Go.Proofs.Ytnmpofjegepmaaa.Mag

theorem Ne.scale {x y k c : Rat} (h : Ne x y k) (hc : 0 ≤ c) : Ne (x * c) (y * c) k :=
  ⟨by have := mr h.1 hc; grind, by have := mr h.2 hc; grind⟩
theorem Ne.eq {x y x' y' k : Rat} (h : Ne x y k) (h1 : x = x') (h2 : y = y') : Ne x' y' k := by rw [← h1, ← h2]; exact h
theorem nn2 (a : Rat) : 0 ≤ a * a := by
  rcases (Rat.le_total : 0 ≤ a ∨ a ≤ 0) with h | h
  · exact mn h h
  · have h1 : 0 ≤ -a := by grind
    have := mn h1 h1
    grind

/-- A magnitude's square. -/
theorem abs_near {M N t p s q r : Rat} (hM : 0 ≤ M) (hN : 0 ≤ N) (hNM : N ≤ M) (hq0 : 0 ≤ q) (h1 : Ne (t * M) N 2) (h2 : Ne p (t * t) 1) (h3 : Ne s (1 + p) 1) (h4 : Ne (q * q) s 4) (h5 : Ne r (M * q) 1) : Ne (r * r) (M * M + N * N) 10 := by
  have M2 := mn hM hM
  have N2 := mn hN hN
  have a1 := h1.mul h1 hN hN (by decide +kernel) (by decide +kernel) (by decide +kernel) (by decide +kernel)
  have a2 : Ne (p * (M * M)) (t * M * (t * M)) 1 := (h2.scale M2).eq rfl (by grind)
  have a3 := a2.trans a1 N2 (by decide +kernel) (by decide +kernel) (by decide +kernel) (by decide +kernel)
  have hnm2 : N * N ≤ M * M := by have := mr hNM hN; have := ml hNM hM; grind
  have a4 : Ne (M * M + p * (M * M)) (M * M + N * N) (26 / 10) := by
    obtain ⟨b1, b2⟩ := a3
    have e := mr hnm2 (Rat.le_of_lt EP_pos)
    have e2 := mn N2 (Rat.le_of_lt EP_pos)
    exact ⟨by grind, by grind⟩
  have a5 : Ne (s * (M * M)) (M * M + p * (M * M)) 1 := (h3.scale M2).eq rfl (by grind)
  have S0 : 0 ≤ M * M + N * N := by grind
  have a6 := a5.trans a4 S0 (by decide +kernel) (by decide +kernel) (by decide +kernel) (by decide +kernel)
  have a7 : Ne (q * q * (M * M)) (s * (M * M)) 4 := h4.scale M2
  have a8 := a7.trans a6 S0 (by decide +kernel) (by decide +kernel) (by decide +kernel) (by decide +kernel)
  have a9 := h5.mul h5 (mn hM hq0) (mn hM hq0) (by decide +kernel) (by decide +kernel) (by decide +kernel) (by decide +kernel)
  have a10 : Ne (r * r) (q * q * (M * M)) (1 + 1 + 1 / 1000) := a9.eq rfl (by grind)
  have a11 := a10.trans a8 S0 (by decide +kernel) (by decide +kernel) (by decide +kernel) (by decide +kernel)
  exact a11.more S0 (by decide +kernel)

/-- The real part of a root's square. -/
theorem root_near {R I A U V : Rat} (hR : 0 ≤ R) (hI : 0 ≤ I) (hA : 0 < A) (hRA : R ≤ A) (hU : 0 < U) (h1 : Ne (A * A) (R * R + I * I) 10) (h2 : Ne (U * 2) (R + A) (501 / 100)) (h3 : Ne (4 * U * V) (I * I) (401 / 100)) :
    U - V - R ≤ 121 / 10 * EP * A ∧ -(121 / 10 * EP * A) ≤ U - V - R := by
  have e := Rat.le_of_lt EP_pos
  have es := EP_small
  have hA0 := Rat.le_of_lt hA
  have R2 := mn hR hR
  have I2 := mn hI hI
  have A2 := mn hA0 hA0
  have AR := mn hA0 hR
  obtain ⟨a1, a2⟩ := h1
  obtain ⟨b1, b2⟩ := h2
  obtain ⟨c1, c2⟩ := h3
  -- the parts' squares are not above the magnitude's by much
  have k1 := mr es (show 0 ≤ R * R + I * I by grind)
  have s1 : R * R + I * I ≤ 1001 / 1000 * (A * A) := by grind
  have s2 := mr s1 e
  have s3 : EP * (I * I) ≤ 1001 / 1000 * (A * A) * EP := by have := mn e R2; grind
  -- D = 2 U - (R + A)
  have d1 := ml (show U * 2 - (R + A) ≤ 501 / 100 * EP * (R + A) by grind) hA0
  have d2 := ml (show -(501 / 100 * EP * (R + A)) ≤ U * 2 - (R + A) by grind) hA0
  have d3 : (U * 2 - (R + A)) * (U * 2 - (R + A)) ≤ 501 / 100 * EP * (R + A) * (501 / 100 * EP * (R + A)) := by
    have := mn (show 0 ≤ 501 / 100 * EP * (R + A) - (U * 2 - (R + A)) by grind) (show 0 ≤ 501 / 100 * EP * (R + A) + (U * 2 - (R + A)) by grind)
    grind
  have d4 := nn2 (U * 2 - (R + A))
  have AS := mn hA0 (show 0 ≤ R + A by grind)
  have d5 : (R + A) * (R + A) ≤ 2 * (A * (R + A)) := by have := mr (show R + A ≤ 2 * A by grind) (show 0 ≤ R + A by grind); grind
  have d6 : 501 / 100 * EP * (R + A) * (501 / 100 * EP * (R + A)) ≤ 1 / 1000 * EP * (A * (R + A)) := by
    have f1 := ml d5 (mn e e)
    have f2 := mr (mr es e) AS
    have f3 := mn e AS
    grind
  have u1 := ml b1 (mn e hA0)
  have u2 := ml b2 (mn e hA0)
  have u3 := mr (mr es e) AS
  have eAS := mn e AS
  have eA2 := mn e A2
  have eAR := mn e AR
  have h4U : 0 < 4 * U := by grind
  constructor
  · apply Rat.le_of_mul_le_mul_right (c := 4 * U) _ h4U
    grind
  · apply Rat.le_of_mul_le_mul_right (c := 4 * U) _ h4U
    grind

/-- The real part, as it is rounded. -/
theorem real_near {R A U V x1 x2 : Rat} (hR : 0 ≤ R) (hA : 0 < A) (hRA : R ≤ A) (hU : 0 ≤ U) (hV : 0 ≤ V) (h1 : Ne (U * 2) (R + A) (501 / 100)) (h2 : U - V - R ≤ 121 / 10 * EP * A) (h3 : -(121 / 10 * EP * A) ≤ U - V - R) (n1 : Ne x1 U 1) (n2 : Ne x2 V 1) :
    x1 - x2 - R ≤ 132 / 10 * EP * A ∧ -(132 / 10 * EP * A) ≤ x1 - x2 - R := by
  have e := Rat.le_of_lt EP_pos
  have es := EP_small
  have hA0 := Rat.le_of_lt hA
  have k1 := mr es hA0
  have k2 := mr es hR
  have eA := mn e hA0
  have eR := mn e hR
  obtain ⟨a1, a2⟩ := h1
  obtain ⟨b1, b2⟩ := n1
  obtain ⟨c1, c2⟩ := n2
  have s1 : U + V ≤ 1001 / 1000 * A := by grind
  have s2 := mr s1 e
  have eU := mn e hU
  have eV := mn e hV
  exact ⟨by grind, by grind⟩
theorem bound_e1 {R A z q e1 : Rat} (hA : 0 < A) (z1 : z - R ≤ 132 / 10 * EP * A) (z2 : -(132 / 10 * EP * A) ≤ z - R) (q1 : q ≤ z + EP * (1001 / 1000 * A)) (q2 : z - EP * (1001 / 1000 * A) ≤ q) (h1 : e1 ≤ q - R + EP * A) (h2 : q - R - EP * A ≤ e1) :
    e1 ≤ 153 / 10 * EP * A ∧ -(153 / 10 * EP * A) ≤ e1 := by
  have e := Rat.le_of_lt EP_pos
  have eA := mn e (Rat.le_of_lt hA)
  exact ⟨by grind, by grind⟩
end Go.Proofs.Ytnmpofjegepmaaa.Mag
