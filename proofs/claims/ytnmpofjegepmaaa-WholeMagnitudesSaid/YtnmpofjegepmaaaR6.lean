/- A magnitude's words: between which bounds they lie, and how near its square is. -/
import Derived.Test.YtnmpofjegepmaaaR4
import Derived.Test.YtnmpofjegepmaaaR5
namespace Go.Proofs.Ytnmpofjegepmaaa.Mag
open Go.Proofs.Ytnmpofjegepmaaa.Fl
open Ieee

def ONEw : Nat := 4607182418800017408
def TWOw : Nat := 4611686018427387904
def HALFw : Nat := 4602678819172646912
theorem one_bin : ONEw = 1023 * ON := by decide
theorem two_bin : TWOw = 1024 * ON := by decide
theorem half_bin : HALFw = 1022 * ON := by decide
theorem inf_bin : INF = 2047 * ON := by decide
theorem ON0 : 0 < ON := by decide
theorem INF_SG : INF < SG := by decide
theorem SG_lt : SG < 18446744073709551616 := by decide
theorem finw {X : Nat} (h : X < INF) : fin X := ⟨Nat.lt_trans (Nat.lt_trans h INF_SG) SG_lt, by rw [Nat.mod_eq_of_lt (Nat.lt_trans h INF_SG)]; exact h⟩
theorem modw {X : Nat} (h : X < INF) : X % SG = X := Nat.mod_eq_of_lt (Nat.lt_trans h INF_SG)
theorem posw {X : Nat} (h : X < INF) : decide (SG ≤ X) = false := by have := Nat.lt_trans h INF_SG; simpa using this
theorem wd_false (r : Nat) : wd false r = r := by unfold wd; simp
theorem kyw {X : Nat} (h : X < INF) : ky X = (Fl.V X : Int) := by unfold ky; rw [modw h, posw h]; rfl
theorem mulp {X Y : Nat} (hX : X < INF) (hY : Y < INF) : N2 .mul X Y = RN (Fl.V X * Fl.V Y) (-((1074 : Nat) : Int)) := by
  rw [mul_word (finw hX) (finw hY), posw hX, posw hY, modw hX, modw hY]; exact wd_false _
theorem addp {X Y : Nat} (hX : X < INF) (hY : Y < INF) : N2 .add X Y = RN (Fl.V X + Fl.V Y) (-((0 : Nat) : Int)) := by
  rw [add_word (finw hX) (finw hY), posw hX, posw hY, kyw hX, kyw hY]
  have h1 : ((Fl.V X : Int) + (Fl.V Y : Int)).natAbs = Fl.V X + Fl.V Y := by omega
  have h2 : decide ((Fl.V X : Int) + (Fl.V Y : Int) < 0) = false := by simp only [decide_eq_false_iff_not]; omega
  rw [h1, h2]
  simp only [Bool.and_self, ite_self]
  exact wd_false _
theorem quop {X Y : Nat} (hX : X < INF) (hY : Y < INF) (h0 : X ≠ 0) (h1 : Y ≠ 0) : ∃ Q k, N2 .quo X Y = RN Q (-((k : Nat) : Int)) ∧
    2 ^ 54 * (Q * Fl.V Y) ≤ 2 ^ 54 * (Fl.V X * 2 ^ (1074 + k)) + Q * Fl.V Y ∧ 2 ^ 54 * (Fl.V X * 2 ^ (1074 + k)) ≤ 2 ^ 54 * (Q * Fl.V Y) + Q * Fl.V Y ∧
    (Fl.V X ≤ Fl.V Y → Q ≤ 2 ^ (1074 + k)) := by
  have e1 : Fl.V X ≠ 0 := fun h => h0 (V_inj (h.trans V_zero.symm))
  have e2 : Fl.V Y ≠ 0 := fun h => h1 (V_inj (h.trans V_zero.symm))
  obtain ⟨Q, k, s, hq, hs, r⟩ := quo_word (finw hX) (finw hY) (by rw [modw hX]; exact e1) (by rw [modw hY]; exact e2)
  rw [posw hX, posw hY] at hs
  rw [modw hX, modw hY] at r
  exact ⟨Q, k, by rw [hq, hs]; exact wd_false _, r⟩
theorem quo0 {Y : Nat} (hY : Y < INF) (h1 : Y ≠ 0) : N2 .quo 0 Y = 0 := by
  have hz : double.read 0 = .number false 0 (-1074) := by decide
  have hmg : mg Y ≠ 0 := by
    intro h
    apply h1
    apply V_inj
    rw [V_zero]; unfold Fl.V; rw [h, Nat.zero_mul]
  have hq : double.div 0 Y = some 0 := by
    unfold Format.div
    rw [hz, read_fin (finw hY), posw hY, modw hY]
    unfold Datum.quotient
    simp only
    rw [if_neg hmg]
    simp only [Nat.zero_shiftLeft, Nat.zero_div, Nat.zero_mod, Option.map_some, bne_self_eq_false, Bool.toNat_false, Nat.mul_zero, Nat.add_zero]
    rw [write_number]
    unfold RN; simp [wd_false]
  exact N2_of (op := .quo) hq
theorem mv0 : mv 0 = 0 := by unfold mv; rw [V_zero]; exact Rat.zero_mul _
set_option exponentiation.threshold 4000 in
theorem mv_one : mv ONEw = 1 := by
  have h : Fl.V ONEw = 2 ^ 1074 := by rw [one_bin, V_bin (by decide)]
  have := mv_U ONEw
  rw [h, UQ_eq] at this
  have h2 := UQ_pos
  have h3 : (mv ONEw - 1) * UQ = 0 := by grind
  rcases Rat.mul_eq_zero.1 h3 with h4 | h4 <;> grind
theorem V_dbl {X : Nat} (h : ON ≤ X) : Fl.V (X + ON) = 2 * Fl.V X := by
  have e1 : (X + ON) / ON = X / ON + 1 := Nat.add_div_right _ ON0
  have e2 : (X + ON) % ON = X % ON := Nat.add_mod_right _ _
  have e3 : 1 ≤ X / ON := (Nat.le_div_iff_mul_le ON0).2 (by omega)
  unfold Fl.V mg sh
  rw [if_neg (by omega), if_neg (by omega), e1, e2, show X / ON + 1 - 1 = (X / ON - 1) + 1 by omega, Nat.pow_succ]
  simp only [Nat.mul_comm, Nat.mul_left_comm]
theorem V_twice (X : Nat) : ∃ r, Fl.V r = 2 * Fl.V X := by
  rcases Nat.lt_or_ge X ON with h | h
  · refine ⟨2 * X, ?_⟩
    rw [V_flat (by omega), V_flat (by omega)]
  · exact ⟨_, V_dbl h⟩
theorem mv_le {X Y : Nat} (h : X ≤ Y) : mv X ≤ mv Y := by
  apply Rat.le_of_mul_le_mul_right (c := UQ) _ UQ_pos
  rw [mv_U, mv_U]; exact_mod_cast V_mono h
theorem V_of_mv {X Y : Nat} (h : mv X ≤ mv Y) : Fl.V X ≤ Fl.V Y := by
  have := mr h (Rat.le_of_lt UQ_pos)
  rw [mv_U, mv_U] at this
  exact_mod_cast this
theorem le_of_mv {X Y : Nat} (h : mv X ≤ mv Y) : X ≤ Y := by
  have := V_of_mv h
  rcases Nat.lt_or_ge Y X with h1 | h1
  · have := V_lt h1; omega
  · exact h1
theorem mv_two : mv TWOw = 2 := by
  have h : Fl.V TWOw = 2 * Fl.V ONEw := by
    have := V_dbl (X := ONEw) (by decide)
    rw [← this]; rfl
  have h1 := mv_U TWOw
  have h2 := mv_U ONEw
  rw [h, Rat.natCast_mul, ← h2, mv_one] at h1
  have h3 := UQ_pos
  have h4 : (mv TWOw - 2) * UQ = 0 := by grind
  rcases Rat.mul_eq_zero.1 h4 with h5 | h5 <;> grind

set_option exponentiation.threshold 4000 in
/-- The steps of a magnitude, whatever the parts. -/
theorem abs_gen {M N t p s : Nat} (hM : M ≤ 1900 * ON) (M0 : M ≠ 0) (hNM : N ≤ M) (ht : t = N2 .quo N M) (hp : p = N2 .mul t t) (hs : s = N2 .add ONEw p) :
    ∃ q, double.sqrt s = some q ∧ t ≤ ONEw ∧ p ≤ ONEw ∧ ONEw ≤ s ∧ s ≤ TWOw ∧ ONEw ≤ q ∧ q ≤ TWOw ∧ M ≤ N2 .mul M q ∧ N2 .mul M q < INF ∧ Fl.V (N2 .mul M q) ≤ 2 * Fl.V M ∧
      Ne (mv s) (mv ONEw + mv p) 1 ∧ Ne (mv q * mv q) (mv s) 4 := by
  have hMI : M < INF := by rw [inf_bin]; have := ON0; omega
  have hNI : N < INF := by omega
  have hone : ONEw < INF := by decide
  have htI : t ≤ ONEw := by
    rw [ht]
    by_cases h0 : N = 0
    · rw [h0, quo0 hMI M0]; exact Nat.zero_le _
    · obtain ⟨Q, k, e1, e2, e3, e4⟩ := quop hNI hMI h0 M0
      have h5 := e4 (V_mono hNM)
      have hf : RN Q (-((k : Nat) : Int)) < INF := RN_fin (E := 1074) (by decide) (by rw [← Nat.pow_add]; exact h5)
      rw [e1]
      refine RN_low ?_ hf
      rw [one_bin, V_bin (by decide), ← Nat.pow_add]
      exact h5
  have htI2 : t < INF := Nat.lt_of_le_of_lt htI hone
  have hV1 : Fl.V ONEw = 2 ^ 1074 := by rw [one_bin, V_bin (by decide)]
  have hpI : p ≤ ONEw := by
    rw [hp, mulp htI2 htI2]
    have h1 : Fl.V t ≤ 2 ^ 1074 := by rw [← hV1]; exact V_mono htI
    have h2 : Fl.V t * Fl.V t ≤ 2 ^ 1074 * 2 ^ 1074 := Nat.mul_le_mul h1 h1
    have hf : RN (Fl.V t * Fl.V t) (-((1074 : Nat) : Int)) < INF := RN_fin (E := 1074) (by decide) h2
    refine RN_low ?_ hf
    rw [hV1]; exact h2
  have hpI2 : p < INF := Nat.lt_of_le_of_lt hpI hone
  obtain ⟨a1, a2, a3, a4, a5⟩ := add_op (X := ONEw) (Y := p) (b := 1023) (by decide) (by rw [← one_bin]; exact hpI) (by decide) (by decide)
  rw [← addp hone hpI2, ← hs] at a1 a2 a3 a4 a5
  have a4' : s ≤ TWOw := by rw [two_bin]; exact a4
  have hsW : Win s 1023 1024 := ⟨by rw [← one_bin]; exact a2, by rw [← two_bin]; exact a4'⟩
  obtain ⟨Q, P, pp, b1, b2, b3, b4, b5, b6⟩ := sqrt_word (finw a1) (Nat.lt_trans a1 INF_SG) (by have := hsW.lo; have := ON0; omega) (by have := hsW.hi; have := ON0; omega)
  obtain ⟨c1, c2⟩ := sqrt_op hsW (by decide) (by decide) b2 b3 b4 b5
  have hs1 : 2 ^ 1074 ≤ Fl.V s := by rw [← hV1]; exact V_mono a2
  have hq1 : ONEw ≤ RN (Q * P) (-((0 : Nat) : Int)) := RN_ge (by rw [hV1, Nat.pow_zero, Nat.mul_one]; exact b6 hs1) c1
  generalize RN (Q * P) (-((0 : Nat) : Int)) = q at *
  have hq2 : q ≤ TWOw := by
    apply le_of_mv
    rw [mv_two]
    have h1 := c2.2
    have h2 : mv s ≤ 2 := by rw [← mv_two]; exact mv_le a4'
    have h3 := mr h2 (Rat.le_of_lt EP_pos)
    have h4 := EP_small
    have h5 := mv_nn q
    have h6 : mv q * mv q ≤ 4 := by grind
    rcases (Rat.le_total : mv q ≤ 2 ∨ 2 ≤ mv q) with h7 | h7
    · exact h7
    · have := mr h7 h5; grind
  have hqI : q < INF := Nat.lt_of_le_of_lt hq2 (by decide)
  have hVq1 : 2 ^ 1074 ≤ Fl.V q := by rw [← hV1]; exact V_mono hq1
  have hV2 : Fl.V TWOw = 2 * 2 ^ 1074 := by
    rw [← hV1, ← V_dbl (X := ONEw) (by decide)]; rfl
  have hVq2 : Fl.V q ≤ 2 * 2 ^ 1074 := by rw [← hV2]; exact V_mono hq2
  have hVM : Fl.V M ≤ 2 ^ (51 + 1900) := hi_V hM (by decide)
  have m1 : Fl.V M * 2 ^ 1074 ≤ Fl.V M * Fl.V q := Nat.mul_le_mul_left _ hVq1
  have m2 : Fl.V M * Fl.V q ≤ 2 * Fl.V M * 2 ^ 1074 := by
    have := Nat.mul_le_mul_left (Fl.V M) hVq2
    rwa [← Nat.mul_assoc, Nat.mul_comm (Fl.V M) 2] at this
  have hf : RN (Fl.V M * Fl.V q) (-((1074 : Nat) : Int)) < INF := by
    refine RN_fin (E := 1952) (by decide) (Nat.le_trans m2 (Nat.mul_le_mul_right _ ?_))
    rw [Nat.pow_succ]; omega
  have hm := mulp hMI hqI
  refine ⟨q, b1, htI, hpI, a2, a4', hq1, hq2, ?_, ?_, ?_, a5, c2⟩
  · rw [hm]; exact RN_ge m1 hf
  · rw [hm]; exact hf
  · obtain ⟨r', hr'⟩ := V_twice M
    rw [hm, ← hr']
    exact V_mono (RN_low (by rw [hr']; exact m2) hf)
end Go.Proofs.Ytnmpofjegepmaaa.Mag
