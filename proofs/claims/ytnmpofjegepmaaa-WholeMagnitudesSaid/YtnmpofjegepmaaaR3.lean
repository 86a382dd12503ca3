/- Nearness of rational numbers, counted in units of 2^-53. -/
import Derived.Test.YtnmpofjegepmaaaR2
namespace Go.Proofs.Ytnmpofjegepmaaa.Mag

/-- 2^-53. -/
def EP : Rat := 1 / 9007199254740992
theorem EP_pos : 0 < EP := by decide +kernel
theorem EP_small : EP * 1000000000 ≤ 1 := by decide +kernel
/-- x is y, but for k units. -/
def Ne (x y k : Rat) : Prop := y ≤ x + k * EP * y ∧ x ≤ y + k * EP * y

theorem ml {a b c : Rat} (h : a ≤ b) (hc : 0 ≤ c) : c * a ≤ c * b := Rat.mul_le_mul_of_nonneg_left h hc
theorem mr {a b c : Rat} (h : a ≤ b) (hc : 0 ≤ c) : a * c ≤ b * c := Rat.mul_le_mul_of_nonneg_right h hc
theorem mn {a b : Rat} (h : 0 ≤ a) (hc : 0 ≤ b) : 0 ≤ a * b := Rat.mul_nonneg h hc

theorem ke {k : Rat} (h : k ≤ 100) : k * EP ≤ 1 / 10000000 := by
  have := mr h (Rat.le_of_lt EP_pos); have := EP_small; grind
theorem Ne.nonneg {x y k : Rat} (h : Ne x y k) (hy : 0 ≤ y) (hk : k ≤ 100) : 0 ≤ x := by
  have h1 := mr (ke hk) hy
  have := h.1
  grind
theorem Ne.refl (x : Rat) {k : Rat} (hx : 0 ≤ x) (hk : 0 ≤ k) : Ne x x k := by
  have h1 := mn (mn hk (Rat.le_of_lt EP_pos)) hx
  exact ⟨by grind, by grind⟩
theorem Ne.more {x y k l : Rat} (h : Ne x y k) (hy : 0 ≤ y) (hl : k ≤ l) : Ne x y l := by
  have h1 := mr (mr hl (Rat.le_of_lt EP_pos)) hy
  exact ⟨by have := h.1; grind, by have := h.2; grind⟩
theorem Ne.add {x y k x' y' : Rat} (h : Ne x y k) (h' : Ne x' y' k) : Ne (x + x') (y + y') k := by
  obtain ⟨h1, h2⟩ := h
  obtain ⟨h3, h4⟩ := h'
  exact ⟨by grind, by grind⟩
theorem kk {a b : Rat} (hb0 : 0 ≤ b) (ha : a ≤ 100) (hb : b ≤ 100) : a * b * EP * EP ≤ 1 / 1000 * EP := by
  have e := Rat.le_of_lt EP_pos
  have h1 : a * b ≤ 10000 := by
    have h2 := mr ha hb0
    have h3 := ml hb (show (0 : Rat) ≤ 100 by decide)
    grind
  have h4 := mr (mr h1 e) e
  have h5 := mr EP_small e
  grind
theorem Ne.mul {x y x' y' a b : Rat} (h : Ne x y a) (h' : Ne x' y' b) (hy : 0 ≤ y) (hy' : 0 ≤ y') (ha0 : 0 ≤ a) (hb0 : 0 ≤ b) (ha : a ≤ 100) (hb : b ≤ 100) : Ne (x * x') (y * y') (a + b + 1 / 1000) := by
  have hx := h.nonneg hy ha
  have hx' := h'.nonneg hy' hb
  obtain ⟨h1, h2⟩ := h
  obtain ⟨h3, h4⟩ := h'
  have e := Rat.le_of_lt EP_pos
  have hk := mr (kk hb0 ha hb) (mn hy hy')
  have hz := mn (mn (mn ha0 e) (mn hb0 e)) (mn hy hy')
  have hz2 := mn (mn hb0 e) (mn hy hy')
  have hz3 := mn (mn ha0 e) (mn hy hy')
  have hz4 := mn e (mn hy hy')
  constructor
  · -- y y' (1 - a)(1 - b) ≤ x x'
    have p1 : (y - a * EP * y) * (y' - b * EP * y') ≤ x * (y' - b * EP * y') := mr (by grind) (by have := mr (ke hb) hy'; grind)
    have p2 : x * (y' - b * EP * y') ≤ x * x' := ml (by grind) hx
    grind
  · have p1 : x * x' ≤ (y + a * EP * y) * x' := mr h2 hx'
    have p2 : (y + a * EP * y) * x' ≤ (y + a * EP * y) * (y' + b * EP * y') := ml h4 (by have := mn (mn ha0 e) hy; grind)
    grind
theorem Ne.trans {x y z a b : Rat} (h : Ne x y a) (h' : Ne y z b) (hz : 0 ≤ z) (ha0 : 0 ≤ a) (hb0 : 0 ≤ b) (ha : a ≤ 100) (hb : b ≤ 100) : Ne x z (a + b + 1 / 1000) := by
  obtain ⟨h1, h2⟩ := h
  obtain ⟨h3, h4⟩ := h'
  have e := Rat.le_of_lt EP_pos
  have hk := mr (kk hb0 ha hb) hz
  have hz1 := mn (mn (mn ha0 e) (mn hb0 e)) hz
  have hz4 := mn e hz
  have hz5 := mn (mn hb0 e) hz
  have p1 := ml h3 (mn ha0 e)
  have p2 := ml h4 (mn ha0 e)
  constructor
  · grind
  · grind
end Go.Proofs.Ytnmpofjegepmaaa.Mag
