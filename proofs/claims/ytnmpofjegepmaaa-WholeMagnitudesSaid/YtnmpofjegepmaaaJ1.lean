/- Signs and order of float sums and products. -/
import Derived.Test.YtnmpofjegepmaaaH1
namespace Go.Proofs.Ytnmpofjegepmaaa
open Go.RowKit Go.Proofs.Ytnmpofjegepmaaa.Fl Go.Proofs.Ytnmpofjegepmaaa.Pt
open Ieee

theorem product_comm (d e : Datum) : d.product e = e.product d := by
  cases d <;> cases e <;> simp [Datum.product, Bool.xor_comm, Nat.mul_comm, Int.add_comm]
theorem sum_comm (d e : Datum) : d.sum e = e.sum d := by
  cases d <;> cases e <;> simp only [Datum.sum]
  · rename_i s m i t n j
    rw [Int.min_comm i j, Int.add_comm (signed s m _), Bool.and_comm]
  · rename_i s t
    cases s <;> cases t <;> rfl
theorem mul_comm_ (a b : Nat) : N2 .mul a b = N2 .mul b a := by
  unfold N2 floatBits
  show (double.mul a b).getD QN = (double.mul b a).getD QN
  unfold Format.mul; rw [product_comm]
theorem add_comm_ (a b : Nat) : N2 .add a b = N2 .add b a := by
  unfold N2 floatBits
  show (double.add a b).getD QN = (double.add b a).getD QN
  unfold Format.add; rw [sum_comm]
theorem cmul_comm (a b : C) : cmul a b = cmul b a := by
  unfold cmul MR MI
  rw [mul_comm_ a.1 b.1, mul_comm_ a.2 b.2, mul_comm_ a.1 b.2, mul_comm_ a.2 b.1, add_comm_]

theorem product_opp (d e : Datum) : d.opposite.product e = (d.product e).map Datum.opposite := by
  cases d <;> cases e <;> simp [Datum.product, Datum.opposite]
  all_goals (try (split <;> simp [Datum.opposite]))
theorem wd_not (s : Bool) {r : Nat} (h : r < SG) : wd (!s) r = ng (wd s r) := by
  have : wd true r = SG + r := rfl
  have h0 : wd false r = r := Nat.zero_add r
  cases s
  · show wd true r = ng (wd false r)
    rw [h0, this]; unfold ng; rw [if_neg (by omega)]; omega
  · show wd false r = ng (wd true r)
    rw [h0, this]; unfold ng; rw [if_pos (by omega)]; omega
theorem write_opp (d : Datum) (h : d.isNaN = false) : double.write d.opposite = ng (double.write d) := by
  cases d with
  | number s m p =>
    show double.write (.number (!s) m p) = ng (double.write (.number s m p))
    rw [write_number, write_number]
    exact wd_not s (Nat.lt_of_le_of_lt (RN_le _ _) (by decide))
  | infinity s => cases s <;> decide
  | nan s t => cases h
theorem mul_ng {a b : Nat} (ha : a < 18446744073709551616) (h : (double.mul a b).isSome = true) : N2 .mul (ng a) b = ng (N2 .mul a b) := by
  unfold N2 floatBits
  show (double.mul (ng a) b).getD QN = ng ((double.mul a b).getD QN)
  unfold Format.mul at *
  rw [read_ng ha, product_opp]
  cases hp : (double.read a).product (double.read b) with
  | none => rw [hp] at h; cases h
  | some d => exact write_opp d (product_num hp)
theorem mul_some {a b : Nat} (h : nan (N2 .mul a b) = false) : (double.mul a b).isSome = true := by
  cases hm : double.mul a b with
  | some _ => rfl
  | none =>
    have : N2 .mul a b = QN := by unfold N2 floatBits; show (double.mul a b).getD QN = QN; rw [hm]; rfl
    rw [this, nan_QN] at h; cases h
theorem neg_mul {a b : Nat} (ha : a < 18446744073709551616) (h : nan (N2 .mul a b) = false) : N2 .mul (ng a) b = ng (N2 .mul a b) := mul_ng ha (mul_some h)
theorem mul_neg {a b : Nat} (hb : b < 18446744073709551616) (h : nan (N2 .mul a b) = false) : N2 .mul a (ng b) = ng (N2 .mul a b) := by
  rw [mul_comm_ a b] at h
  rw [mul_comm_ a (ng b), neg_mul hb h, mul_comm_]
theorem nan_ng {a : Nat} (h : a < 18446744073709551616) : nan (ng a) = nan a := by unfold nan; rw [ng_rung h]

theorem signed_not (s : Bool) (m u : Nat) : signed (!s) m u = - signed s m u := by unfold signed; cases s <;> simp
/-- The sum of two words with their signs turned: the sum with its sign turned, or both are nought. -/
theorem sum_opp (d e f : Datum) (h : d.sum e = some f) : ∃ f', d.opposite.sum e.opposite = some f' ∧ (f' = f.opposite ∨ (∃ s t i, f = .number s 0 i ∧ f' = .number t 0 i)) := by
  cases d with
  | nan => cases e <;> simp [Datum.sum] at h
  | infinity s =>
    cases e with
    | nan => simp [Datum.sum] at h
    | infinity t =>
      simp only [Datum.sum] at h
      by_cases hst : s = t
      · subst hst
        rw [if_pos rfl] at h
        cases h
        exact ⟨.infinity (!s), by simp [Datum.opposite, Datum.sum], .inl rfl⟩
      · rw [if_neg hst] at h; cases h
    | number t n j =>
      simp only [Datum.sum] at h
      cases h
      exact ⟨.infinity (!s), by simp [Datum.opposite, Datum.sum], .inl rfl⟩
  | number s m i =>
    cases e with
    | nan => simp [Datum.sum] at h
    | infinity t =>
      simp only [Datum.sum] at h
      cases h
      exact ⟨.infinity (!t), by simp [Datum.opposite, Datum.sum], .inl rfl⟩
    | number t n j =>
      simp only [Datum.sum, Option.some.injEq] at h
      refine ⟨_, rfl, ?_⟩
      rw [signed_not, signed_not, ← Int.neg_add]
      generalize signed s m (i - min i j).toNat + signed t n (j - min i j).toNat = T at *
      rw [← h]
      by_cases h0 : T = 0
      · subst h0
        exact .inr ⟨_, _, _, rfl, rfl⟩
      · refine .inl ?_
        simp only [Datum.opposite, if_neg h0, if_neg (show ¬ (-T = 0) by omega), Int.natAbs_neg]
        congr 1
        by_cases h1 : T < 0
        · simp [h1]; omega
        · simp [h1]; omega
theorem RN_0 (p : Int) : RN 0 p = 0 := by
  have h := write_number false 0 (p - 1074)
  rw [show p - 1074 + 1074 = p by omega] at h
  have h2 : double.write (.number false 0 (p - 1074)) = 0 := by
    show Format.nearest double false 0 _ = 0
    unfold Format.nearest; simp [Format.word]
  rw [h2] at h
  unfold wd at h; simpa using h.symm
theorem add_ng {a b : Nat} (ha : a < 18446744073709551616) (hb : b < 18446744073709551616) (h : nan (N2 .add a b) = false) : N2 .add (ng a) (ng b) = ng (N2 .add a b) ∨ (N2 .add (ng a) (ng b) % SG = 0 ∧ N2 .add a b % SG = 0) := by
  cases hs : (double.read a).sum (double.read b) with
  | none =>
    have : N2 .add a b = QN := by unfold N2 floatBits; show (double.add a b).getD QN = QN; unfold Format.add; rw [hs]; rfl
    rw [this, nan_QN] at h; cases h
  | some f =>
    obtain ⟨f', h1, h2⟩ := sum_opp _ _ _ hs
    have e1 : N2 .add a b = double.write f := by unfold N2 floatBits; show (double.add a b).getD QN = _; unfold Format.add; rw [hs]; rfl
    have e2 : N2 .add (ng a) (ng b) = double.write f' := by unfold N2 floatBits; show (double.add (ng a) (ng b)).getD QN = _; unfold Format.add; rw [read_ng ha, read_ng hb, h1]; rfl
    rw [e1, e2]
    rcases h2 with rfl | ⟨s, t, i, rfl, rfl⟩
    · exact .inl (write_opp f (sum_num hs))
    · refine .inr ?_
      rw [write_number, write_number, RN_0, wd_rung _ (by decide), wd_rung _ (by decide)]
      exact ⟨rfl, rfl⟩
theorem rk_0 {a : Nat} (ha : a < 18446744073709551616) (h : a % SG = 0) : rk a = 0 := by
  unfold rk; simp only [SG] at *; split <;> omega
theorem cmp_self (x : Int) : compare x x = .eq := by rw [cmp_int]; simp
theorem order_self {a : Nat} (ha : a < 18446744073709551616) (h : nan a = false) : FloatKind.f64.format.order a a = some Ordering.eq := by
  show double.order a a = _
  rw [order_eq ha ha, h]; simp
theorem order_zero {a b : Nat} (ha : a < 18446744073709551616) (hb : b < 18446744073709551616) (h1 : a % SG = 0) (h2 : b % SG = 0) : FloatKind.f64.format.order a b = some Ordering.eq := by
  show double.order a b = _
  have n1 : nan a = false := by unfold nan; rw [h1]; decide
  have n2 : nan b = false := by unfold nan; rw [h2]; decide
  rw [order_eq ha hb, n1, n2, rk_0 ha h1, rk_0 hb h2]; rfl
theorem order_nan {a b : Nat} (ha : a < 18446744073709551616) (hb : b < 18446744073709551616) (h : nan a = true ∨ nan b = true) : FloatKind.f64.format.order a b = none := by
  show double.order a b = _
  rw [order_eq ha hb]
  rcases h with h | h <;> simp [h]
theorem order_sym {a b : Nat} (ha : a < 18446744073709551616) (hb : b < 18446744073709551616) : (FloatKind.f64.format.order a b == some Ordering.eq) = (FloatKind.f64.format.order b a == some Ordering.eq) := by
  show (double.order a b == some Ordering.eq) = (double.order b a == some Ordering.eq)
  rw [order_eq ha hb, order_eq hb ha, Bool.or_comm]
  split
  · rfl
  · rw [Bool.eq_iff_iff]
    simp only [beq_iff_eq, Option.some.injEq]
    rw [cmp_int, cmp_int]
    constructor <;> intro h <;> (split at h; cases h) <;> (split at h) <;> first | (rename_i h1 h2; rw [if_neg (by omega), if_pos h2.symm]) | cases h
end Go.Proofs.Ytnmpofjegepmaaa
