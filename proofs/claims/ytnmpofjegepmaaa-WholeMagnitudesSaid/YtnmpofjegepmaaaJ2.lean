/- Contracts of layers 1 and 3: Order, Same, Turn, Conj, Abs of 3-4i; quavertop.finite. -/
import Derived.Test.YtnmpofjegepmaaaJ1
import Derived.Test.YtnmpofjegepmaaaD1
namespace Go.Proofs.Ytnmpofjegepmaaa
open Go.RowKit Go.Proofs.Ytnmpofjegepmaaa.Fl Go.Proofs.Ytnmpofjegepmaaa.Pt

theorem place_any (b : Nat) (hb : b < 18446744073709551616) (w : World) :
    Calls Try.prog 116 #[.float .f64 b] w fun e w' => e = .returned (.int .u64 (plc b)) ∧ w = w' := by
  rcases place_ways b hb with ⟨g0, g1, R⟩ | ⟨g0, R⟩
  · go_enter Try.func116, Try.ntmps116
    go_wp2
    go_ret
    exact ⟨rfl, rfl⟩
  · go_enter Try.func116, Try.ntmps116
    go_wp2
    go_ret
    exact ⟨ri R.out.1, rfl⟩
theorem rank_any (b : Nat) (hb : b < 18446744073709551616) (w : World) :
    Calls Try.prog 115 #[.float .f64 b] w fun e w' => e = .returned (.int .i64 (rnk b)) ∧ w = w' := by
  rcases rank_ways b hb with ⟨g0, R⟩ | ⟨g0, g1⟩
  · go_enter Try.func115, Try.ntmps115
    go_wp2
    go_ret
    exact ⟨ri R.out, rfl⟩
  · go_enter Try.func115, Try.ntmps115
    go_wp2_with (go_at_call 116; refine (place_any b hb _).mono ?_; rintro e w' ⟨rfl, rfl⟩)
    go_ret
    exact ⟨rfl, rfl⟩
theorem porder_any (a b : Nat) (ha : a < 18446744073709551616) (hb : b < 18446744073709551616) (w : World) :
    Calls Try.prog 112 #[.float .f64 a, .float .f64 b] w fun e w' => e = .returned (.int .i64 (ordr (rnk a) (rnk b))) ∧ w = w' := by
  rcases order_ways (rnk a) (rnk b) with ⟨g, g0, R⟩ | ⟨g, g0, g1, R⟩ | ⟨g0, g1, R⟩
  all_goals
    go_enter Try.func112, Try.ntmps112
    go_wp2_with (go_at_call 115; refine (rank_any _ (by assumption) _).mono ?_; rintro e w' ⟨rfl, rfl⟩)
    go_ret
    exact ⟨ri R.out, rfl⟩
theorem psame_raw (a b : Nat) (ha : a < 18446744073709551616) (hb : b < 18446744073709551616) (w : World) :
    Calls Try.prog 95 #[.float .f64 a, .float .f64 b] w fun e w' => e = .returned (.bool (ordr (rnk a) (rnk b) == 0)) ∧ w = w' := by
  go_enter Try.func95, Try.ntmps95
  go_wp2_with (go_at_call 112; refine (porder_any _ _ ha hb _).mono ?_; rintro e w' ⟨rfl, rfl⟩)
  go_ret
  exact ⟨rfl, rfl⟩
theorem ordr_0 (x y : Int) : (ordr x y == 0) = decide (x = y) := by
  unfold ordr
  rcases Int.lt_trichotomy x y with h | h | h
  · rw [if_pos h]; simp; omega
  · rw [if_neg (by omega), if_neg (by omega)]; simp [h]
  · rw [if_neg (by omega), if_pos h]; simp; omega
theorem rnk_eqN (a b : Nat) (ha : a < 18446744073709551616) (hb : b < 18446744073709551616) : (ordr (rnk a) (rnk b) == 0) = eqN a b := by
  rw [ordr_0]
  unfold eqN
  have key : ∀ x : Nat, x < 18446744073709551616 → nan x = false → rnk x = (if 9223372036854775808 ≤ x then 9223372036854775807 - (x : Int) else x) ∧ rnk x ≤ 9218868437227405312 ∧ (9223372036854775808 ≤ x → x ≤ 18442240474082181120) := by
    intro x hx hn
    have h2 : x % 9223372036854775808 ≤ 9218868437227405312 := by unfold nan at hn; simp [INF, SG] at hn; omega
    have h1 : rnk x = (if 9223372036854775808 ≤ x then 9223372036854775807 - (x : Int) else x) := by unfold rnk; rw [hn]; rfl
    refine ⟨h1, ?_, by omega⟩
    rw [h1]; split <;> omega
  have kn : ∀ x : Nat, nan x = true → rnk x = 9223372036854775807 := fun x h => by unfold rnk; rw [if_pos h]
  cases h1 : nan a <;> cases h2 : nan b
  · obtain ⟨p1, p2, p3⟩ := key a ha h1
    obtain ⟨q1, q2, q3⟩ := key b hb h2
    rw [cn_num h1, cn_num h2, p1, q1, Bool.eq_iff_iff]
    simp only [decide_eq_true_eq]
    split <;> split <;> omega
  · obtain ⟨p1, p2, p3⟩ := key a ha h1
    rw [kn b h2, cn_num h1, cn_nan h2, Bool.eq_iff_iff]
    simp only [decide_eq_true_eq]
    constructor
    · intro h; omega
    · intro h; rw [h] at h1; rw [nan_QN] at h1; cases h1
  · obtain ⟨q1, q2, q3⟩ := key b hb h2
    rw [kn a h1, cn_nan h1, cn_num h2, Bool.eq_iff_iff]
    simp only [decide_eq_true_eq]
    constructor
    · intro h; omega
    · intro h; rw [← h] at h2; rw [nan_QN] at h2; cases h2
  · rw [kn a h1, kn b h2, cn_nan h1, cn_nan h2]; simp
theorem psame_any (a b : Nat) (ha : a < 18446744073709551616) (hb : b < 18446744073709551616) (w : World) :
    Calls Try.prog 95 #[.float .f64 a, .float .f64 b] w fun e w' => e = .returned (.bool (eqN a b)) ∧ w' = w := by
  rw [← rnk_eqN a b ha hb]
  exact (psame_raw a b ha hb w).mono fun _ _ ⟨h1, h2⟩ => ⟨h1, h2.symm⟩
theorem csame_any (a b : C) (ha : wf a) (hb : wf b) (w : World) :
    Calls Try.prog 56 #[.complex .f64 a.1 a.2, .complex .f64 b.1 b.2] w fun e w' => e = .returned (.bool (eqC a b)) ∧ w' = w := by
  obtain ⟨a1, a2⟩ := ha
  obtain ⟨b1, b2⟩ := hb
  cases h1 : eqN a.1 b.1
  all_goals
    go_enter Try.func56, Try.ntmps56
    go_wp2_with (go_at_call 95; refine (psame_any _ _ (by assumption) (by assumption) _).mono ?_; rintro e w' ⟨rfl, rfl⟩; (try rw [h1]))
    go_ret
    exact ⟨rb (by simp [eqC, h1]), rfl⟩
theorem turn_any (a b : Nat) (hb : b < 18446744073709551616) (w : World) : Calls Try.prog 57 #[.complex .f64 a b] w fun e w' => e = .returned (.complex .f64 (ng b) a) ∧ w' = w := by
  have h := negFloat_ng b hb
  go_enter Try.func57, Try.ntmps57
  go_wp2
  go_ret
  exact ⟨by first | rfl | rw [h], rfl⟩
theorem conj_any (a b : Nat) (hb : b < 18446744073709551616) (w : World) : Calls Try.prog 58 #[.complex .f64 a b] w fun e w' => e = .returned (.complex .f64 a (ng b)) ∧ w' = w := by
  have h := negFloat_ng b hb
  go_enter Try.func58, Try.ntmps58
  go_wp2
  go_ret
  exact ⟨by first | rfl | rw [h], rfl⟩
def plB (b : Nat) : Bool := !nan b && !decide (b % 9223372036854775808 = INF)
theorem tplainB_any (b : Nat) (hb : b < 18446744073709551616) (w : World) : Calls Try.prog 96 #[.float .f64 b] w fun e w' => e = .returned (.bool (plB b)) ∧ w' = w := by
  cases h1 : nan b
  all_goals
    go_enter Try.func96, Try.ntmps96
    go_wp2_with (first | (go_at_call 92; refine (isnan_any _ hb _).mono ?_; rintro e w' ⟨rfl, rfl⟩; rw [h1]) | (go_at_call 91; refine (isinf_any _ hb _).mono ?_; rintro e w' ⟨rfl, rfl⟩))
    go_ret
    exact ⟨rb (by simp [plB, h1]), rfl⟩
theorem tfinite_any (a : C) (ha : wf a) (w : World) : Calls Try.prog 60 #[.complex .f64 a.1 a.2] w fun e w' => e = .returned (.bool (plB a.1 && plB a.2)) ∧ w' = w := by
  obtain ⟨a1, a2⟩ := ha
  cases h1 : plB a.1
  all_goals
    go_enter Try.func60, Try.ntmps60
    go_wp2_with fail
    refine (tplainB_any a.1 a1 _).mono ?_
    rintro e w' ⟨rfl, rfl⟩
    rw [h1]
    go_wp2_with fail
  · go_ret
    exact ⟨rb (by simp), rfl⟩
  · refine (tplainB_any a.2 a2 _).mono ?_
    rintro e w' ⟨rfl, rfl⟩
    go_wp2_with fail
    go_ret
    exact ⟨rb (by simp), rfl⟩
end Go.Proofs.Ytnmpofjegepmaaa
