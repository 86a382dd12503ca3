/- Quotients by powers of two, roots of squares: exact. -/
import Derived.Test.YtnmpofjegepmaaaEx
namespace Go.Proofs.Ytnmpofjegepmaaa
open Go.Proofs.Ytnmpofjegepmaaa.Fl
open Ieee

theorem EX.sgn {x : Nat} {a : Int} {k : Nat} (h : EX x a k) : sg (decide (SG ≤ x)) a.natAbs = a := by
  have pk : (0 : Int) < ((2 ^ k : Nat) : Int) := by exact_mod_cast Nat.two_pow_pos k
  have hc := h.2
  unfold ky sg at hc
  unfold sg
  cases hs : decide (SG ≤ x)
  · rw [hs] at hc
    simp only [Bool.false_eq_true, if_false] at hc ⊢
    by_cases h0 : 0 ≤ a
    · omega
    · have := Int.mul_neg_of_neg_of_pos (show a < 0 by omega) pk; omega
  · rw [hs] at hc
    simp only [if_true] at hc ⊢
    by_cases h0 : a ≤ 0
    · omega
    · have := Int.mul_pos (show 0 < a by omega) pk; omega
theorem EX.mag {x : Nat} {a : Int} {k : Nat} (h : EX x a k) : Fl.V (x % SG) = a.natAbs * 2 ^ k := by
  have hc := h.2
  have : (ky x).natAbs = Fl.V (x % SG) := by unfold ky sg; split <;> simp
  rw [← this, hc, Int.natAbs_mul, Int.natAbs_natCast]
theorem mg_lt (r : Nat) : mg r < 2 ^ 53 := by
  unfold mg
  have h1 : r % ON < ON := Nat.mod_lt _ (by decide)
  have h2 : ON = 2 ^ 52 := by decide
  split <;> omega
/-- The word of 2^e. -/
def W2 (e : Nat) : Nat := (1023 + e) * 4503599627370496
theorem W2_read {e : Nat} (he : e ≤ 1000) : double.read (W2 e) = .number false 4503599627370496 (-52 + (e : Int)) := by
  have hs : W2 e < SG := by unfold W2; simp only [SG]; omega
  have hf : fin (W2 e) := ⟨by unfold W2; omega, by rw [Nat.mod_eq_of_lt hs]; unfold W2; simp only [INF]; omega⟩
  rw [read_fin hf, Nat.mod_eq_of_lt hs]
  have h1 : decide (SG ≤ W2 e) = false := by simp; omega
  have h2 : mg (W2 e) = 4503599627370496 := by unfold mg W2; simp only [ON]; rw [if_neg (by omega)]; omega
  have h3 : sh (W2 e) = 1022 + e := by unfold sh W2; simp only [ON]; omega
  rw [h1, h2, h3]
  congr 1
  omega

theorem quo_ex {x : Nat} {a : Int} {k e m : Nat} (hx : EX x a k) (ha : a.natAbs < 9007199254740992) (he : e ≤ 1000) (hm : m + e = k) (hk : k ≤ 2044) : EX (N2 .quo x (W2 e)) a m := by
  have hr : x % SG < INF := hx.1.2
  have hmag := hx.mag
  have hsg := hx.sgn
  generalize hrr : x % SG = r at *
  have hml := mg_lt r
  have hlog : (mg r).log2 ≤ 52 := by
    by_cases h0 : mg r = 0
    · rw [h0]; decide
    · have := (Nat.log2_lt h0).2 hml; omega
  have hq : double.div x (W2 e) = some (wd (decide (SG ≤ x)) (RN (a.natAbs * 2 ^ m) 0)) := by
    unfold Format.div
    rw [read_fin hx.1, W2_read he, hrr]
    unfold Datum.quotient
    simp only
    rw [if_neg (by decide)]
    have hl : (4503599627370496 : Nat).log2 = 52 := by decide
    have hfb : double.fractionBits + 2 = 54 := by decide
    rw [hl, hfb]
    generalize hmo : 54 + 52 - (mg r).log2 = more
    have hmore : 54 ≤ more := by omega
    have hd : mg r <<< more = (mg r * 2 ^ (more - 52)) * 4503599627370496 := by
      rw [Nat.shiftLeft_eq, show (4503599627370496 : Nat) = 2 ^ 52 by decide, Nat.mul_assoc, ← Nat.pow_add]
      congr 2; omega
    rw [hd, Nat.mul_div_cancel _ (by decide), Nat.mul_mod_left]
    simp only [Option.map_some, bne_self_eq_false, Bool.toNat_false, Nat.add_zero, Bool.xor_false]
    rw [write_number]
    congr 2
    have e1 : 2 * (mg r * 2 ^ (more - 52)) = mg r * 2 ^ (more - 51) := by
      rw [show more - 51 = (more - 52) + 1 by omega, Nat.pow_succ]
      rw [Nat.mul_comm 2, Nat.mul_assoc]
    have s1 := RN_scale (mg r) (more - 51) ((sh r : Int) - e)
    have s2 := RN_scale (mg r) (sh r) ((sh r : Int) - e)
    have s3 := RN_scale (a.natAbs * 2 ^ m) e 0
    rw [e1, show -1074 + (sh r : Int) - (-52 + (e : Int)) - (more : Int) - 1 + 1074 = (sh r : Int) - e - ((more - 51 : Nat) : Int) by omega, s1, ← s2]
    rw [show (sh r : Int) - e - (sh r : Int) = 0 - (e : Int) by omega, ← s3]
    congr 1
    show Fl.V r = _
    rw [hmag, Nat.mul_assoc, ← Nat.pow_add, hm]
  have hN : N2 .quo x (W2 e) = _ := N2_of (op := .quo) hq
  rw [hN]
  exact EX_of (EX_wd _ _ m ha (by omega)) hsg

theorem rootFrom_sq (q : Nat) : ∀ todo root : Nat, root ≤ q → q < root + 2 ^ todo → Datum.rootFrom (q * q) todo root = q := by
  intro todo
  induction todo with
  | zero => intro root h1 h2; unfold Datum.rootFrom; omega
  | succ t ih =>
    intro root h1 h2
    unfold Datum.rootFrom
    simp only [Nat.one_shiftLeft] at *
    have hp : (2 : Nat) ^ (t + 1) = 2 ^ t + 2 ^ t := by rw [Nat.pow_succ]; omega
    by_cases h : root + 2 ^ t ≤ q
    · rw [if_pos (Nat.mul_self_le_mul_self h)]
      exact ih _ h (by omega)
    · rw [if_neg (by intro hc; exact h (Nat.mul_self_le_mul_self_iff.1 hc))]
      exact ih _ h1 (by omega)
end Go.Proofs.Ytnmpofjegepmaaa
