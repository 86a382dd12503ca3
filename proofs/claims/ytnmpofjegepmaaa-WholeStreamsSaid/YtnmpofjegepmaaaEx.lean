/- Floats that hold whole multiples of a power of two: sums, differences and products of few digits are exact. -/
import Derived.Test.YtnmpofjegepmaaaArith
import Derived.Test.YtnmpofjegepmaaaC2
namespace Go.Proofs.Ytnmpofjegepmaaa
open Go.Proofs.Ytnmpofjegepmaaa.Fl

/-- The word u is n times 2^(k - 1074). -/
def EX (u : Nat) (n : Int) (k : Nat) : Prop := fin u ∧ ky u = n * ((2 ^ k : Nat) : Int)

theorem fin_nan {u : Nat} (h : fin u) : nan u = false := by
  unfold nan; have := h.2; simp only [decide_eq_false_iff_not]; omega
theorem EX.cn_ {u : Nat} {n : Int} {k : Nat} (h : EX u n k) : cn u = u := cn_num (fin_nan h.1)
theorem EX.lt {u : Nat} {n : Int} {k : Nat} (h : EX u n k) : u < 18446744073709551616 := h.1.1
theorem EX.up {u : Nat} {n : Int} {k : Nat} (h : EX u n k) (j m : Nat) (hk : m + j = k) : EX u (n * ((2 ^ j : Nat) : Int)) m := by
  refine ⟨h.1, ?_⟩
  rw [h.2, ← hk, Nat.pow_add]
  push_cast
  rw [Int.mul_assoc, Int.mul_comm (2 ^ j : Int)]

theorem N2_of {op : BinOp} {x y r : Nat} (h : floatBits op .f64 x y = some r) : N2 op x y = r := by unfold N2; rw [h]; rfl

theorem EX_wd (s : Bool) (n k : Nat) (hn : n < 9007199254740992) (hk : k ≤ 2044) : EX (wd s (RN (n * 2 ^ k) 0)) (sg s n) k := by
  have hS : n * 2 ^ k < 2 ^ TOP := by
    have h1 : n * 2 ^ k < 2 ^ 53 * 2 ^ k := Nat.mul_lt_mul_of_pos_right (by simpa using hn) (Nat.two_pow_pos k)
    rw [← Nat.pow_add] at h1
    exact Nat.lt_of_lt_of_le h1 (Nat.pow_le_pow_right (by decide) (by simp only [TOP]; omega))
  obtain ⟨h1, h2⟩ := RN_exact n k hn hS
  refine ⟨fin_wd s h1, ?_⟩
  rw [ky_wd s (Nat.lt_trans h1 (by decide)), h2, sg_mul]

theorem EX_of {u : Nat} {n m : Int} {k : Nat} (h : EX u n k) (e : n = m) : EX u m k := e ▸ h

theorem add_ex {x y : Nat} {a b : Int} {k : Nat} (hx : EX x a k) (hy : EX y b k) (hb : (a + b).natAbs < 9007199254740992) (hk : k ≤ 2044) : EX (N2 .add x y) (a + b) k := by
  have h := add_fin hx.1 hy.1
  have e : ky x + ky y = (a + b) * ((2 ^ k : Nat) : Int) := by rw [hx.2, hy.2, Int.add_mul]
  rw [e] at h
  have hN : N2 .add x y = _ := N2_of (op := .add) h
  rw [hN, Int.natAbs_mul, Int.natAbs_natCast]
  refine EX_of (EX_wd _ _ k hb hk) ?_
  have pk : (0 : Int) < ((2 ^ k : Nat) : Int) := by exact_mod_cast Nat.two_pow_pos k
  by_cases hz : a + b = 0
  · rw [hz]; unfold sg; split <;> simp
  · rw [if_neg (by intro h0; rcases Int.mul_eq_zero.1 h0 with h | h <;> omega)]
    by_cases hn : a + b < 0
    · have : (a + b) * ((2 ^ k : Nat) : Int) < 0 := Int.mul_neg_of_neg_of_pos hn pk
      simp only [this, decide_true, sg, if_true]; omega
    · have : ¬ (a + b) * ((2 ^ k : Nat) : Int) < 0 := by have := Int.mul_nonneg (show 0 ≤ a + b by omega) (Int.le_of_lt pk); omega
      simp only [this, decide_false, sg]; simp; omega

theorem ng_ex {x : Nat} {a : Int} {k : Nat} (hx : EX x a k) : EX (ng x) (-a) k := ⟨fin_ng hx.1, by rw [ky_ng hx.1.1, hx.2, Int.neg_mul]⟩

theorem sub_ex {x y : Nat} {a b : Int} {k : Nat} (hx : EX x a k) (hy : EX y b k) (hb : (a - b).natAbs < 9007199254740992) (hk : k ≤ 2044) : EX (N2 .sub x y) (a - b) k := by
  have h := add_ex hx (ng_ex hy) (by rwa [← Int.sub_eq_add_neg]) hk
  rw [← Int.sub_eq_add_neg] at h
  have e : N2 .sub x y = N2 .add x (ng y) := by
    unfold N2 floatBits; exact congrArg (fun o => Option.getD o QN) (sub_eq hy.1.1)
  rw [e]; exact h

set_option exponentiation.threshold 4000 in
theorem mul_ex {x y : Nat} {a b : Int} {k l m : Nat} (hx : EX x a k) (hy : EX y b l) (hb : (a * b).natAbs < 9007199254740992) (hm : m + 1074 = k + l) (hk : m ≤ 2044) : EX (N2 .mul x y) (a * b) m := by
  have h := mul_fin hx.1 hy.1
  have hN : N2 .mul x y = _ := N2_of (op := .mul) h
  rw [hN, hx.2, hy.2, Int.natAbs_mul, Int.natAbs_mul, Int.natAbs_natCast, Int.natAbs_natCast]
  have e : a.natAbs * 2 ^ k * (b.natAbs * 2 ^ l) = (a.natAbs * b.natAbs) * 2 ^ m * 2 ^ 1074 := by
    rw [Nat.mul_assoc _ (2 ^ m), ← Nat.pow_add, hm, Nat.pow_add]
    simp only [Nat.mul_assoc, Nat.mul_left_comm]
  rw [e]
  have e2 := RN_scale ((a.natAbs * b.natAbs) * 2 ^ m) 1074 0
  rw [show (0 : Int) - (1074 : Nat) = -1074 by rfl] at e2
  rw [e2]
  refine EX_of (EX_wd _ _ m (by rwa [← Int.natAbs_mul]) hk) ?_
  have sx : ∀ {u : Nat} {c : Int} {j : Nat}, EX u c j → (decide (SG ≤ u) = true → c ≤ 0) ∧ (decide (SG ≤ u) = false → 0 ≤ c) := by
    intro u c j hu
    have pk : (0 : Int) < ((2 ^ j : Nat) : Int) := by exact_mod_cast Nat.two_pow_pos j
    have hc := hu.2
    unfold ky sg at hc
    constructor
    · intro hs; rw [hs] at hc; simp only [if_true] at hc
      by_cases h0 : c ≤ 0
      · exact h0
      · have := Int.mul_pos (show 0 < c by omega) pk; omega
    · intro hs; rw [hs] at hc; simp only [Bool.false_eq_true, if_false] at hc
      by_cases h0 : 0 ≤ c
      · exact h0
      · have := Int.mul_neg_of_neg_of_pos (show c < 0 by omega) pk; omega
  have s1 := sx hx
  have s2 := sx hy
  have ha : (a.natAbs : Int) = if decide (SG ≤ x) = true then -a else a := by
    cases h : decide (SG ≤ x)
    · have := s1.2 h; simp; omega
    · have := s1.1 h; simp; omega
  have hb' : (b.natAbs : Int) = if decide (SG ≤ y) = true then -b else b := by
    cases h : decide (SG ≤ y)
    · have := s2.2 h; simp; omega
    · have := s2.1 h; simp; omega
  unfold sg
  rw [show ((a.natAbs * b.natAbs : Nat) : Int) = (a.natAbs : Int) * (b.natAbs : Int) by push_cast; rfl, ha, hb']
  cases decide (SG ≤ x) <;> cases decide (SG ≤ y) <;> simp [Int.mul_neg, Int.neg_mul]

/-- Equal by '==' where equal in value. -/
theorem order_ex {x y : Nat} {a b : Int} {k : Nat} (hx : EX x a k) (hy : EX y b k) : (FloatKind.f64.format.order x y == some Ordering.eq) = decide (a = b) := by
  show (Ieee.double.order x y == some Ordering.eq) = _
  have pk : (0 : Int) < ((2 ^ k : Nat) : Int) := by exact_mod_cast Nat.two_pow_pos k
  rw [order_eq hx.lt hy.lt, fin_nan hx.1, fin_nan hy.1, ← cmp_ky hx.lt hy.lt, hx.2, hy.2, cmp_scale _ _ _ pk]
  rcases Int.lt_trichotomy a b with h | h | h
  · rw [cmp_lt h]; simp; omega
  · rw [cmp_eq h]; simp [h]
  · rw [cmp_gt h]; simp; omega
end Go.Proofs.Ytnmpofjegepmaaa
