/- What is left of a root's square behind the number: the words. -/
import Derived.Test.YtnmpofjegepmaaaR9
namespace Go.Proofs.Ytnmpofjegepmaaa.Mag
open Go.Proofs.Ytnmpofjegepmaaa.Fl
open Ieee

theorem INF_fin0 : (0 : Nat) < INF := by decide
theorem mul_wd (s t : Bool) {X Y : Nat} (hX : X < INF) (hY : Y < INF) : N2 .mul (wd s X) (wd t Y) = wd (s ^^ t) (N2 .mul X Y) := by
  have h1 := Nat.lt_trans hX INF_SG
  have h2 := Nat.lt_trans hY INF_SG
  rw [mul_word (fin_wd s hX) (fin_wd t hY), wd_rung s h1, wd_rung t h2, wd_neg s h1, wd_neg t h2, mulp hX hY]
theorem mul_comm' {X Y : Nat} (hX : X < INF) (hY : Y < INF) : N2 .mul X Y = N2 .mul Y X := by rw [mulp hX hY, mulp hY hX, Nat.mul_comm]
theorem fin_lt {x : Nat} (h : fin x) : x < 18446744073709551616 := h.1
theorem two_pow_40 {A : Nat} (h : A ≤ 1055 * ON) : mv A ≤ ((2 ^ 40 : Nat) : Rat) := by
  have h1 : mv A ≤ ((2 ^ 32 : Nat) : Rat) := mv_hi h
  have h2 : ((2 ^ 32 : Nat) : Rat) ≤ ((2 ^ 40 : Nat) : Rat) := by exact_mod_cast (by decide : (2 : Nat) ^ 32 ≤ 2 ^ 40)
  exact Rat.le_trans h1 h2
theorem two_pow_41 {a : Rat} (h : a ≤ ((2 ^ 40 : Nat) : Rat)) (_h0 : 0 ≤ a) : 1001 / 1000 * a ≤ ((2 ^ 41 : Nat) : Rat) := by
  have e : ((2 ^ 41 : Nat) : Rat) = 2 * ((2 ^ 40 : Nat) : Rat) := by
    rw [Nat.pow_succ, Rat.natCast_mul, Rat.mul_comm]; rfl
  rw [e]
  grind

/-- The real part: q1 is near 'z', 'z' near the number's own. -/
theorem far_re {p1 p2 re : Nat} {zr A : Rat} (hA : 0 < A) (hAE : A ≤ ((2 ^ 40 : Nat) : Rat)) (f1 : fin p1) (f2 : fin p2) (fr : fin re) (hr1 : rv re ≤ A) (hr2 : -A ≤ rv re)
    (hz : rv p1 - rv p2 = zr) (z1 : zr - rv re ≤ 132 / 10 * EP * A) (z2 : -(132 / 10 * EP * A) ≤ zr - rv re) :
    fin (N2 .sub p1 p2) ∧ fin (N2 .sub (N2 .sub p1 p2) re) ∧ mv (N2 .sub (N2 .sub p1 p2) re % SG) ≤ 153 / 10 * EP * A := by
  have e := Rat.le_of_lt EP_pos
  have eA := mn e (Rat.le_of_lt hA)
  have es := mr EP_small (Rat.le_of_lt hA)
  rw [sub_word (fin_lt f2)]
  obtain ⟨g1, g2, g3⟩ := sum_op (D := 1001 / 1000 * A) (E := 41) f1 (fin_ng f2) (by rw [rv_ng (fin_lt f2)]; grind) (by rw [rv_ng (fin_lt f2)]; grind) (by decide) (two_pow_41 hAE (Rat.le_of_lt hA))
  rw [rv_ng (fin_lt f2)] at g2 g3
  generalize N2 .add p1 (ng p2) = q1 at *
  rw [sub_word (fin_lt fr)]
  obtain ⟨k1, k2, k3⟩ := sum_op (D := A) (E := 40) g1 (fin_ng fr) (by rw [rv_ng (fin_lt fr)]; grind) (by rw [rv_ng (fin_lt fr)]; grind) (by decide) hAE
  rw [rv_ng (fin_lt fr)] at k2 k3
  generalize N2 .add q1 (ng re) = e1 at *
  have hb := bound_e1 (R := rv re) (z := zr) (q := rv q1) (e1 := rv e1) hA z1 z2 (by grind) (by grind) (by grind) (by grind)
  exact ⟨g1, k1, mag_le k1 hb.1 hb.2⟩

/-- The imaginary part. -/
theorem far_im {y1 im : Nat} {A : Rat} (hA : 0 < A) (hAE : A ≤ ((2 ^ 40 : Nat) : Rat)) (f1 : fin y1) (fr : fin im) (hr1 : rv im ≤ A) (hr2 : -A ≤ rv im)
    (z1 : rv y1 * 2 - rv im ≤ 4 * EP * A) (z2 : -(4 * EP * A) ≤ rv y1 * 2 - rv im) :
    fin (N2 .add y1 y1) ∧ fin (N2 .sub (N2 .add y1 y1) im) ∧ mv (N2 .sub (N2 .add y1 y1) im % SG) ≤ 153 / 10 * EP * A := by
  have e := Rat.le_of_lt EP_pos
  have eA := mn e (Rat.le_of_lt hA)
  have es := mr EP_small (Rat.le_of_lt hA)
  obtain ⟨g1, g2, g3⟩ := sum_op (D := 1001 / 1000 * A) (E := 41) f1 f1 (by grind) (by grind) (by decide) (two_pow_41 hAE (Rat.le_of_lt hA))
  generalize N2 .add y1 y1 = q1 at *
  rw [sub_word (fin_lt fr)]
  obtain ⟨k1, k2, k3⟩ := sum_op (D := A) (E := 40) g1 (fin_ng fr) (by rw [rv_ng (fin_lt fr)]; grind) (by rw [rv_ng (fin_lt fr)]; grind) (by decide) hAE
  rw [rv_ng (fin_lt fr)] at k2 k3
  generalize N2 .add q1 (ng im) = e1 at *
  exact ⟨g1, k1, mag_le k1 (by grind) (by grind)⟩

/-- All of it: the root (s1, s2) of (re, im). -/
theorem far_words {re im R I A u X s1 s2 : Nat} (fre : fin re) (fim : fin im) (hR : re % SG = R) (hI : im % SG = I) (hA : Win A 991 1055) (hRA : R ≤ A) (hIA : I ≤ A) (hu : u < INF) (hX : X < INF)
    (x1 : N2 .mul u u < INF) (x2 : N2 .mul X X < INF) (x3 : N2 .mul u X < INF) (b1 : mv (N2 .mul u u) - mv (N2 .mul X X) - mv R ≤ 132 / 10 * EP * mv A) (b2 : -(132 / 10 * EP * mv A) ≤ mv (N2 .mul u u) - mv (N2 .mul X X) - mv R) (n : Ne (mv (N2 .mul u X) * 2) (mv I) (301 / 100))
    (hs : (rv re = mv R ∧ s1 = u ∧ s2 = wd (decide (SG ≤ im)) X) ∨ (rv re = -mv R ∧ s1 = X ∧ s2 = wd (decide (SG ≤ im)) u)) :
    (fin (N2 .sub (N2 .mul s1 s1) (N2 .mul s2 s2)) ∧ fin (N2 .sub (N2 .sub (N2 .mul s1 s1) (N2 .mul s2 s2)) re) ∧ mv (N2 .sub (N2 .sub (N2 .mul s1 s1) (N2 .mul s2 s2)) re % SG) ≤ 153 / 10 * EP * mv A) ∧
    (fin (N2 .add (N2 .mul s1 s2) (N2 .mul s2 s1)) ∧ fin (N2 .sub (N2 .add (N2 .mul s1 s2) (N2 .mul s2 s1)) im) ∧ mv (N2 .sub (N2 .add (N2 .mul s1 s2) (N2 .mul s2 s1)) im % SG) ≤ 153 / 10 * EP * mv A) := by
  have e := Rat.le_of_lt EP_pos
  have hA0 := mv_pos (win_ne hA (by decide))
  have hAE := two_pow_40 hA.hi
  have hRm := mv_le hRA
  have hIm := mv_le hIA
  obtain ⟨r1, r2⟩ := rv_mag fre (by rw [hR]; exact hRm)
  obtain ⟨i1, i2⟩ := rv_mag fim (by rw [hI]; exact hIm)
  have hri := rv_sgn fim
  rw [hI] at hri
  generalize decide (SG ≤ im) = σ at *
  have sq : ∀ {Y : Nat} (t : Bool), Y < INF → N2 .mul (wd t Y) (wd t Y) = N2 .mul Y Y := by
    intro Y t hY
    rw [mul_wd t t hY hY]; cases t <;> exact wd_false _
  -- the product of both is one word
  have hy : N2 .mul s1 s2 = wd σ (N2 .mul u X) ∧ N2 .mul s2 s1 = wd σ (N2 .mul u X) := by
    rcases hs with ⟨_, rfl, rfl⟩ | ⟨_, rfl, rfl⟩
    · have a := mul_wd false σ hu hX
      have b := mul_wd σ false hX hu
      rw [wd_false] at a b
      rw [Bool.false_xor] at a
      rw [Bool.xor_false, mul_comm' hX hu] at b
      exact ⟨a, b⟩
    · have a := mul_wd false σ hX hu
      have b := mul_wd σ false hu hX
      rw [wd_false] at a b
      rw [Bool.false_xor, mul_comm' hX hu] at a
      rw [Bool.xor_false] at b
      exact ⟨a, b⟩
  constructor
  · rcases hs with ⟨h1, rfl, rfl⟩ | ⟨h1, rfl, rfl⟩
    · rw [sq σ hX]
      exact far_re (zr := mv (N2 .mul s1 s1) - mv (N2 .mul X X)) hA0 hAE (finw x1) (finw x2) fre r1 r2 (by rw [rv_pos x1, rv_pos x2]) (by rw [h1]; exact b1) (by rw [h1]; exact b2)
    · rw [sq σ hu]
      exact far_re (zr := mv (N2 .mul s1 s1) - mv (N2 .mul u u)) hA0 hAE (finw x2) (finw x1) fre r1 r2 (by rw [rv_pos x1, rv_pos x2]) (by rw [h1]; grind) (by rw [h1]; grind)
  · rw [hy.1, hy.2]
    have hrw := rv_wd σ x3
    have eI := ml hIm e
    have k : rv (wd σ (N2 .mul u X)) * 2 - rv im ≤ 4 * EP * mv A ∧ -(4 * EP * mv A) ≤ rv (wd σ (N2 .mul u X)) * 2 - rv im := by
      rw [hrw, hri]
      obtain ⟨n1, n2⟩ := n
      have hI0 := mn e (mv_nn I)
      cases σ
      · simp only [Bool.false_eq_true, if_false]; exact ⟨by grind, by grind⟩
      · simp only [if_true]; exact ⟨by grind, by grind⟩
    exact far_im hA0 hAE (fin_wd σ x3) fim i1 i2 k.1 k.2
end Go.Proofs.Ytnmpofjegepmaaa.Mag
