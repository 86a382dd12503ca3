/- Plain laws of layer 1: ranks, indexes, places, neighbours; no Go in sight. -/
import Derived.Test.YtdincnjmohlgiaaPj
namespace Go.Proofs.Ytdincnjmohlgiaa.Pt
open Go.Proofs.Ytdincnjmohlgiaa.Fl Go.Lib Go.RowKit

theorem nan_iff {b : Nat} : nan b = true ↔ 9218868437227405312 < b % 9223372036854775808 := by
  unfold nan; simp [SG, INF]
theorem nan_not {b : Nat} : nan b = false ↔ b % 9223372036854775808 ≤ 9218868437227405312 := by
  unfold nan; simp [SG, INF]

theorem rnk_num {b : Nat} (h : nan b = false) : rnk b = if 9223372036854775808 ≤ b then 9223372036854775807 - (b : Int) else b := by
  unfold rnk; rw [h]; rfl
theorem rnk_nan {b : Nat} (h : nan b = true) : rnk b = 9223372036854775807 := by unfold rnk; rw [h]; rfl
theorem idx_num {b : Nat} (h : nan b = false) : idx b = if 9223372036854775808 ≤ b then 9218868437227405312 - b % 9223372036854775808 else 9218868437227405313 + b := by
  unfold idx; rw [h]; rfl
theorem idx_nan {b : Nat} (h : nan b = true) : idx b = 18437736874454810627 := by unfold idx; rw [h]; rfl
theorem plc_eq {b : Nat} : plc b = if 9223372036854775808 ≤ b then 27670116110564327423 - b else b := rfl

theorem plc_hi {b : Nat} (c : 9223372036854775808 ≤ b) : plc b = 27670116110564327423 - b := by rw [plc_eq, if_pos c]
theorem plc_lo {b : Nat} (c : ¬ 9223372036854775808 ≤ b) : plc b = b := by rw [plc_eq, if_neg c]

/-- A number's index is its rank, moved. -/
theorem idx_rnk {b : Nat} (hb : b < 18446744073709551616) (h : nan b = false) : ((idx b : Nat) : Int) = rnk b + 9218868437227405313 ∧ -9218868437227405313 ≤ rnk b ∧ rnk b ≤ 9218868437227405312 := by
  have h2 := nan_not.1 h
  rw [idx_num h, rnk_num h]
  by_cases c : 9223372036854775808 ≤ b
  · rw [if_pos c, if_pos c]; omega
  · rw [if_neg c, if_neg c]; omega
theorem plc_rnk {b : Nat} (hb : b < 18446744073709551616) (h : nan b = false) : ((plc b : Nat) : Int) = rnk b % 18446744073709551616 := by
  rw [plc_eq, rnk_num h]
  by_cases c : 9223372036854775808 ≤ b
  · rw [if_pos c, if_pos c]; omega
  · rw [if_neg c, if_neg c]; omega

theorem ordr_same {x y x' y' : Int} (h1 : x < y ↔ x' < y') (h2 : y < x ↔ y' < x') : ordr x y = ordr x' y' := by
  unfold ordr; simp only [h1, h2]

theorem ordr_idx {a b : Nat} (ha : a < 18446744073709551616) (hb : b < 18446744073709551616) : ordr (rnk a) (rnk b) = ordr (idx a : Nat) (idx b : Nat) := by
  cases h1 : nan a <;> cases h2 : nan b
  · have := idx_rnk ha h1; have := idx_rnk hb h2
    exact ordr_same (by omega) (by omega)
  · have := idx_rnk ha h1; rw [rnk_nan h2, idx_nan h2]
    exact ordr_same (by omega) (by omega)
  · have := idx_rnk hb h2; rw [rnk_nan h1, idx_nan h1]
    exact ordr_same (by omega) (by omega)
  · rw [rnk_nan h1, idx_nan h1, rnk_nan h2, idx_nan h2]
    exact ordr_same (by omega) (by omega)

theorem ordr_zero {x y : Int} : (ordr x y == 0) = decide (x = y) := by
  unfold ordr
  rcases Int.lt_trichotomy x y with h | h | h
  · rw [if_pos h]; simp; omega
  · rw [if_neg (by omega), if_neg (by omega)]; simp [h]
  · rw [if_neg (by omega), if_pos h]; simp; omega

theorem same_idx {a b : Nat} (ha : a < 18446744073709551616) (hb : b < 18446744073709551616) : (ordr (rnk a) (rnk b) == 0) = (((idx a : Nat) : Int) == (idx b : Nat)) := by
  rw [ordr_idx ha hb, ordr_zero, Bool.eq_iff_iff]; simp

theorem ulp_eq {a b : Nat} (ha : a < 18446744073709551616) (hb : b < 18446744073709551616) (h1 : nan a = false) (h2 : nan b = false) : ((ulp a b : Nat) : Int) = if rnk b < rnk a then rnk a - rnk b else rnk b - rnk a := by
  have r1 := idx_rnk ha h1; have r2 := idx_rnk hb h2
  have p1 := plc_rnk ha h1; have p2 := plc_rnk hb h2
  have l1 := plc_lt ha; have l2 := plc_lt hb
  unfold ulp ordr
  rcases Int.lt_trichotomy (rnk a) (rnk b) with h | h | h
  · rw [if_pos h, if_neg (by omega), if_neg (by omega)]; omega
  · rw [if_neg (show ¬ rnk a < rnk b by omega), if_neg (show ¬ rnk b < rnk a by omega), if_neg (by omega), if_neg (by omega)]; omega
  · rw [if_neg (show ¬ rnk a < rnk b by omega), if_pos h, if_pos (by omega), if_pos h]; omega

theorem ulp_dul {a b : Nat} (ha : a < 18446744073709551616) (hb : b < 18446744073709551616) (h1 : nan a = false) (h2 : nan b = false) : ulp a b = dul a b := by
  have r1 := idx_rnk ha h1; have r2 := idx_rnk hb h2
  have u := ulp_eq ha hb h1 h2
  unfold dul
  split at u <;> omega

theorem ulpV_dulV {a b : Nat} (ha : a < 18446744073709551616) (hb : b < 18446744073709551616) : ulpV a b = dulV a b := by
  unfold ulpV dulV
  cases h1 : nan a
  · cases h2 : nan b
    · rw [ulp_dul ha hb h1 h2]
    · rfl
  · rfl

/-- Next is the reference's. -/
theorem nxt_dnx {b : Nat} (hb : b < 18446744073709551616) : nxt b = dnx b := by
  unfold nxt dnx
  cases h : nan b
  · have h2 := nan_not.1 h
    rw [if_neg (show ¬ (false = true) by decide), idx_num h]
    by_cases c : 9223372036854775808 ≤ b
    · have c2 : b ≠ INF := by simp only [INF]; omega
      simp only [c2, decide_false, Bool.or_self, Bool.false_eq_true, if_false]
      rw [if_pos c, plc_hi c, plc_eq]
      unfold ati; simp only [INF, SG]
      by_cases c3 : b = 9223372036854775808
      · subst c3; decide
      · rw [if_pos (by omega), if_pos (by omega)]; omega
    · by_cases c2 : b = INF
      · subst c2; decide
      · simp only [c2, decide_false, Bool.or_self, Bool.false_eq_true, if_false]
        simp only [INF] at c2
        rw [if_neg c, plc_lo c, plc_eq]
        unfold ati; simp only [INF, SG]
        rw [if_neg (by omega), if_neg (by omega)]; omega
  · simp only [Bool.true_or, if_true]

theorem ng_eq {b : Nat} : ng b = if 9223372036854775808 ≤ b then b - 9223372036854775808 else b + 9223372036854775808 := rfl

theorem prv_dpr {b : Nat} (hb : b < 18446744073709551616) : prv b = dpr b := by
  unfold prv dpr
  cases h : nan b
  · have h2 := nan_not.1 h
    rw [idx_num h]
    by_cases c : 9223372036854775808 ≤ b
    · rw [if_pos c]
      by_cases c2 : b = 18442240474082181120
      · subst c2; decide
      · have c3 : ng b ≠ INF := by rw [ng_eq, if_pos c]; simp only [INF]; omega
        have c4 : ¬ 9218868437227405312 - b % 9223372036854775808 = 0 := by omega
        simp only [c3, c4, decide_false, Bool.or_self, Bool.false_eq_true, if_false]
        rw [plc_hi c, plc_eq]
        unfold ati; simp only [INF, SG]
        rw [if_pos (by omega), if_pos (by omega)]; omega
    · have c3 : ng b ≠ INF := by rw [ng_eq, if_neg c]; simp only [INF]; omega
      rw [if_neg c]
      have c4 : ¬ 9218868437227405313 + b = 0 := by omega
      simp only [c3, c4, decide_false, Bool.or_self, Bool.false_eq_true, if_false]
      rw [plc_lo c, plc_eq]
      unfold ati; simp only [INF, SG]
      by_cases c5 : b = 0
      · subst c5; decide
      · rw [if_neg (by omega), if_neg (by omega)]; omega
  · simp only [Bool.true_or, if_true]

theorem nxt_lt {b : Nat} (hb : b < 18446744073709551616) : nxt b < 18446744073709551616 := by
  unfold nxt; split
  · exact hb
  · exact plc_lt (by omega)
theorem prv_lt {b : Nat} (hb : b < 18446744073709551616) : prv b < 18446744073709551616 := by
  unfold prv; split
  · exact hb
  · exact plc_lt (by omega)

theorem sgw_lt (b : Nat) : sgw b < 18446744073709551616 := by unfold sgw; simp only [SG]; split <;> omega
theorem flu_lt {b : Nat} (hb : b < 18446744073709551616) : flu b < 18446744073709551616 := by
  unfold flu; split
  · exact sgw_lt b
  · exact hb
theorem cls_sgw (b : Nat) : cls (sgw b) = 0 := by
  unfold sgw; split <;> decide
theorem flu_flu (b : Nat) : flu (flu b) = flu b := by
  unfold flu
  by_cases h : cls b = 1
  · simp only [h, if_true]; rw [if_neg (by rw [cls_sgw]; decide)]
  · simp only [h, if_false]
theorem sgb_sgw (b : Nat) : sgb (sgw b) = sgb b := by
  unfold sgb sgw; simp only [SG]
  by_cases h : 9223372036854775808 ≤ b
  · rw [if_pos h]; simp [h]
  · rw [if_neg h]; simp [h]
theorem sgw_zero (b : Nat) : (Go.FloatKind.f64.format.order (sgw b) 0 == some Ordering.eq) = true := by
  unfold sgw; split <;> decide

end Go.Proofs.Ytdincnjmohlgiaa.Pt
