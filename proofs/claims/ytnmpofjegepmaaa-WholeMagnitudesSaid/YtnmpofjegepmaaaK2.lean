/- Roots of squares: exact. -/
import Derived.Test.YtnmpofjegepmaaaK1
namespace Go.Proofs.Ytnmpofjegepmaaa
open Go.Proofs.Ytnmpofjegepmaaa.Fl
open Ieee

set_option exponentiation.threshold 4000 in
theorem sqrt_ex {x k : Nat} (hx : EX x ((k : Int) * k) 1074) (h0 : 0 < k) (hk : k < 67108864) : ∃ r, double.sqrt x = some r ∧ EX r (k : Int) 1074 := by
  have hmag := hx.mag
  have hsg := hx.sgn
  have hna : ((k : Int) * k).natAbs = k * k := by rw [← Int.natCast_mul, Int.natAbs_natCast]
  rw [hna] at hmag hsg
  have hkk : 0 < k * k := Nat.mul_pos h0 h0
  have hneg : decide (SG ≤ x) = false := by
    cases h : decide (SG ≤ x)
    · rfl
    · rw [h] at hsg
      simp only [sg, if_true] at hsg
      push_cast at hsg
      have : (0 : Int) < (k : Int) * k := by exact_mod_cast hkk
      omega
  have hread := read_fin hx.1
  rw [hneg] at hread
  generalize x % SG = r at *
  have hv : mg r * 2 ^ sh r = k * k * 2 ^ 1074 := hmag
  have hm0 : mg r ≠ 0 := by
    intro h
    rw [h, Nat.zero_mul] at hv
    have : 0 < k * k * 2 ^ 1074 := Nat.mul_pos hkk (Nat.two_pow_pos _)
    omega
  have hlog : (mg r).log2 ≤ 52 := by have := (Nat.log2_lt hm0).2 (mg_lt r); omega
  have hsh : sh r ≤ 1126 := by
    by_cases h : sh r ≤ 1126
    · exact h
    · exfalso
      have h1 : 2 ^ 1127 ≤ mg r * 2 ^ sh r := Nat.le_trans (Nat.pow_le_pow_right (by decide) (by omega)) (Nat.le_mul_of_pos_left _ (by omega))
      have h2 : k * k < 2 ^ 52 := by
        have : k * k < 67108864 * 67108864 := Nat.mul_lt_mul'' hk hk
        simpa using this
      have h3 : k * k * 2 ^ 1074 < 2 ^ 52 * 2 ^ 1074 := Nat.mul_lt_mul_of_pos_right h2 (Nat.two_pow_pos _)
      rw [← Nat.pow_add] at h3
      have h4 : (2 : Nat) ^ (52 + 1074) ≤ 2 ^ 1127 := Nat.pow_le_pow_right (by decide) (by decide)
      omega
  have hfb : double.fractionBits + 2 = 54 := by decide
  obtain ⟨q, g, hq, hqg⟩ : ∃ q g : Nat, (Datum.root 54 (.number false (mg r) (-1074 + (sh r : Int)))) = some (.number false (2 * q) (-(g : Int) - 1)) ∧ q = k * 2 ^ g := by
    unfold Datum.root
    simp only [if_neg hm0, Bool.false_eq_true, if_false]
    generalize hmore : 2 * 54 - (mg r).log2 + ((-1074 + (sh r : Int) - ((2 * 54 - (mg r).log2 : Nat) : Int)) % 2).toNat = more
    obtain ⟨g, hg⟩ : ∃ g : Nat, more + 1074 = 2 * g + sh r := ⟨(more + 1074 - sh r) / 2, by omega⟩
    have hn : mg r <<< more = (k * 2 ^ g) * (k * 2 ^ g) := by
      have e1 : mg r * 2 ^ more * 2 ^ sh r = (k * 2 ^ g) * (k * 2 ^ g) * 2 ^ sh r := by
        have e2 : mg r * 2 ^ more * 2 ^ sh r = (mg r * 2 ^ sh r) * 2 ^ more := by rw [Nat.mul_assoc, Nat.mul_comm (2 ^ more), ← Nat.mul_assoc]
        rw [e2, hv]
        have e3 : (k * 2 ^ g) * (k * 2 ^ g) * 2 ^ sh r = k * k * (2 ^ g * 2 ^ g * 2 ^ sh r) := by
          simp only [Nat.mul_assoc, Nat.mul_left_comm, Nat.mul_comm]
        rw [e3, Nat.mul_assoc, ← Nat.pow_add, ← Nat.pow_add, ← Nat.pow_add]
        congr 2; omega
      rw [Nat.shiftLeft_eq]
      exact Nat.eq_of_mul_eq_mul_right (Nat.two_pow_pos _) e1
    rw [hn]
    generalize hqq : k * 2 ^ g = q
    have hq0 : q * q ≠ 0 := by
      have : 0 < q := by rw [← hqq]; exact Nat.mul_pos h0 (Nat.two_pow_pos _)
      exact Nat.pos_iff_ne_zero.1 (Nat.mul_pos this this)
    have hql : q < 0 + 2 ^ ((q * q).log2 / 2 + 1) := by
      rw [Nat.zero_add]
      have h1 : q * q < 2 ^ ((q * q).log2 + 1) := Nat.lt_log2_self
      have h2 : 2 ^ ((q * q).log2 + 1) ≤ 2 ^ ((q * q).log2 / 2 + 1) * 2 ^ ((q * q).log2 / 2 + 1) := by
        rw [← Nat.pow_add]; exact Nat.pow_le_pow_right (by decide) (by omega)
      exact Nat.mul_self_lt_mul_self_iff.1 (Nat.lt_of_lt_of_le h1 h2)
    rw [rootFrom_sq q _ 0 (Nat.zero_le _) hql]
    refine ⟨q, g, ?_, hqq.symm⟩
    simp only [bne_self_eq_false, Bool.toNat_false, Nat.add_zero]
    congr 2
    omega
  refine ⟨double.write (.number false (2 * q) (-(g : Int) - 1)), ?_, ?_⟩
  · unfold Format.sqrt
    rw [hread, hfb, hq]; rfl
  · rw [write_number]
    have e1 : 2 * q = k * 2 ^ (g + 1) := by rw [hqg, Nat.pow_succ]; rw [Nat.mul_comm 2, Nat.mul_assoc]
    have s1 := RN_scale k (g + 1) 1074
    have s2 := RN_scale k 1074 1074
    rw [e1, show -(g : Int) - 1 + 1074 = 1074 - ((g + 1 : Nat) : Int) by omega, s1, ← s2]
    exact EX_of (EX_wd false k 1074 (by omega) (by omega)) (by simp [sg])
end Go.Proofs.Ytnmpofjegepmaaa
