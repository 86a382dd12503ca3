/- quavertop.tame, math.Max; quotients by 1 and i of tame numbers. -/
import Derived.Test.YtnmpofjegepmaaaS3
import Derived.Test.YtnmpofjegepmaaaK5
namespace Go.Proofs.Ytnmpofjegepmaaa
open Go.RowKit Go.Proofs.Ytnmpofjegepmaaa.Fl Go.Proofs.Ytnmpofjegepmaaa.Pt Go.Proofs.Ytnmpofjegepmaaa.Mag

theorem bits_and (a b : Nat) (ha : a < 18446744073709551616) (hb : b < 18446744073709551616) : bits .and .u64 (a : Int) (b : Int) = ((a &&& b : Nat) : Int) := by
  have h1 : (BitVec.ofInt 64 (a : Int)).toNat = a := by
    rw [BitVec.ofInt_natCast, BitVec.toNat_ofNat]; exact Nat.mod_eq_of_lt (by omega)
  have h2 : (BitVec.ofInt 64 (b : Int)).toNat = b := by
    rw [BitVec.ofInt_natCast, BitVec.toNat_ofNat]; exact Nat.mod_eq_of_lt (by omega)
  show IntKind.u64.wrap ((BitVec.ofInt 64 (a : Int) &&& BitVec.ofInt 64 (b : Int)).toNat : Int) = _
  rw [BitVec.toNat_and, h1, h2, IntKind.wrap_u64]
  have h3 : a &&& b ≤ a := Nat.and_le_left
  omega
theorem bits_or (a b : Nat) (ha : a < 18446744073709551616) (hb : b < 18446744073709551616) : bits .or .u64 (a : Int) (b : Int) = ((a ||| b : Nat) : Int) := by
  have h1 : (BitVec.ofInt 64 (a : Int)).toNat = a := by
    rw [BitVec.ofInt_natCast, BitVec.toNat_ofNat]; exact Nat.mod_eq_of_lt (by omega)
  have h2 : (BitVec.ofInt 64 (b : Int)).toNat = b := by
    rw [BitVec.ofInt_natCast, BitVec.toNat_ofNat]; exact Nat.mod_eq_of_lt (by omega)
  show IntKind.u64.wrap ((BitVec.ofInt 64 (a : Int) ||| BitVec.ofInt 64 (b : Int)).toNat : Int) = _
  rw [BitVec.toNat_or, h1, h2, IntKind.wrap_u64]
  have h3 : a ||| b < 2 ^ 64 := Nat.or_lt_two_pow (by simpa using ha) (by simpa using hb)
  have h4 : (2 : Nat) ^ 64 = 18446744073709551616 := by decide
  omega
/-- A tame word. -/
def tmw (b : Nat) : Nat := (b &&& 9227875636482146303) ||| ((991 + b / 4503599627370496 % 2048 % 63) * 4503599627370496)
theorem tmw_eq (b : Nat) (hb : b < 18446744073709551616) : tmw b % SG = (991 + b / 4503599627370496 % 2048 % 63) * ON + b % ON ∧ tmw b < 18446744073709551616 := by
  have e1 : (9227875636482146303 : Nat) = 9223372036854775808 ||| 4503599627370495 := by decide
  have e2 : b &&& 4503599627370495 = b % 4503599627370496 := Nat.and_two_pow_sub_one_eq_mod b 52
  have e3 : b &&& 9223372036854775808 = if 9223372036854775808 ≤ b then 9223372036854775808 else 0 := by
    have h1 := bits_and b 9223372036854775808 hb (by decide)
    have h2 := and_sg b hb
    have h3 : ((b &&& 9223372036854775808 : Nat) : Int) = if 9223372036854775808 ≤ b then 9223372036854775808 else 0 := by rw [← h1]; exact h2
    split at h3 <;> rename_i h4
    · rw [if_pos h4]; omega
    · rw [if_neg h4]; omega
  have hk : 991 + b / 4503599627370496 % 2048 % 63 < 2048 := by omega
  unfold tmw
  generalize 991 + b / 4503599627370496 % 2048 % 63 = k at *
  rw [e1, Nat.and_or_distrib_left, e2, e3, Nat.or_assoc]
  have hm : b % 4503599627370496 < 2 ^ 52 := Nat.mod_lt _ (by decide)
  have e4 : b % 4503599627370496 ||| k * 4503599627370496 = k * 4503599627370496 + b % 4503599627370496 := by
    have := Nat.two_pow_add_eq_or_of_lt hm k
    rw [show (2 : Nat) ^ 52 = 4503599627370496 by decide] at this
    rw [Nat.or_comm, Nat.mul_comm, ← this]
  rw [e4]
  have hON : ON = 4503599627370496 := rfl
  have hSG : SG = 9223372036854775808 := rfl
  rw [hON, hSG]
  have h52 : (2 : Nat) ^ 52 = 4503599627370496 := by decide
  rw [h52] at hm
  have hy : k * 4503599627370496 + b % 4503599627370496 < 2 ^ 63 := by
    have : (2 : Nat) ^ 63 = 9223372036854775808 := by decide
    omega
  generalize k * 4503599627370496 + b % 4503599627370496 = y at *
  have h63 : (2 : Nat) ^ 63 = 9223372036854775808 := by decide
  split
  · have := Nat.two_pow_add_eq_or_of_lt hy 1
    rw [Nat.mul_one, h63] at this
    rw [h63] at hy
    rw [← this]
    omega
  · rw [h63] at hy
    rw [Nat.zero_or]
    omega
theorem tmw_fin (b : Nat) (hb : b < 18446744073709551616) : fin (tmw b) ∧ Tm (tmw b % SG) := by
  obtain ⟨h1, h2⟩ := tmw_eq b hb
  have h3 : b % ON < ON := Nat.mod_lt _ ON0
  have h4 : b / 4503599627370496 % 2048 % 63 ≤ 62 := by omega
  generalize b / 4503599627370496 % 2048 % 63 = j at *
  have h5 : (991 + j) * ON + b % ON < (991 + j + 1) * ON := by rw [Nat.succ_mul]; exact Nat.add_lt_add_left h3 _
  refine ⟨⟨h2, ?_⟩, .inr ⟨?_, ?_⟩⟩
  · rw [h1, inf_bin]; exact Nat.lt_of_lt_of_le h5 (Nat.mul_le_mul_right _ (by omega))
  · rw [h1]; exact Nat.le_trans (Nat.mul_le_mul_right _ (by omega)) (Nat.le_add_right _ _)
  · rw [h1]; exact Nat.le_trans (Nat.le_of_lt h5) (Nat.mul_le_mul_right _ (by omega))

/-- What tame answers. -/
def tmv (b : Nat) : Nat := if b % 9223372036854775808 = 0 then b else tmw b
theorem tmv_fin (b : Nat) (hb : b < 18446744073709551616) : fin (tmv b) ∧ Tm (tmv b % SG) := by
  unfold tmv
  by_cases h0 : b % 9223372036854775808 = 0
  · rw [if_pos h0]
    exact ⟨⟨hb, by show b % 9223372036854775808 < INF; rw [h0]; decide⟩, .inl h0⟩
  · rw [if_neg h0]; exact tmw_fin b hb
theorem tame_any (b : Nat) (hb : b < 18446744073709551616) (w : World) : Calls Try.prog 66 #[.int .u64 (b : Int)] w fun e w' => e = .returned (.float .f64 (tmv b)) ∧ w' = w := by
  have h1 : bits .and .u64 (b : Int) 9223372036854775807 = ((b % 9223372036854775808 : Nat) : Int) := by
    have := bits_and b 9223372036854775807 hb (by decide)
    rw [show b &&& 9223372036854775807 = b % 9223372036854775808 from Nat.and_two_pow_sub_one_eq_mod b 63] at this
    exact this
  by_cases h0 : b % 9223372036854775808 = 0
  · have t1 : (((b % 9223372036854775808 : Nat) : Int) == 0) = true := by rw [h0]; rfl
    go_enter Try.func66, Try.ntmps66
    go_wp2_with fail
    go_ret
    exact ⟨rf (by unfold tmv; rw [if_pos h0]), rfl⟩
  · have t1 : (((b % 9223372036854775808 : Nat) : Int) == 0) = false := by simp; omega
    have hv : (bits .or .u64 (bits .and .u64 (b : Int) 9227875636482146303) (IntKind.u64.wrap (IntKind.u64.wrap (991 + (bits .and .u64 ((b : Int) / 4503599627370496) 2047).tmod 63) * 4503599627370496))).toNat = tmw b := by
      have h2 : bits .and .u64 ((b : Int) / 4503599627370496) 2047 = ((b / 4503599627370496 % 2048 : Nat) : Int) := by
        have := bits_and (b / 4503599627370496) 2047 (by omega) (by decide)
        rw [show b / 4503599627370496 &&& 2047 = b / 4503599627370496 % 2048 from Nat.and_two_pow_sub_one_eq_mod _ 11] at this
        exact this
      have h3 : bits .and .u64 (b : Int) 9227875636482146303 = ((b &&& 9227875636482146303 : Nat) : Int) := bits_and b 9227875636482146303 hb (by decide)
      rw [h2, h3]
      have h4 : IntKind.u64.wrap (IntKind.u64.wrap (991 + ((b / 4503599627370496 % 2048 : Nat) : Int).tmod 63) * 4503599627370496) = (((991 + b / 4503599627370496 % 2048 % 63) * 4503599627370496 : Nat) : Int) := by
        rw [IntKind.wrap_u64, IntKind.wrap_u64, Int.tmod_eq_emod_of_nonneg (by omega)]
        omega
      rw [h4, bits_or _ _ (Nat.lt_of_le_of_lt Nat.and_le_left hb) (by omega)]
      rfl
    go_enter Try.func66, Try.ntmps66
    go_wp2_with fail
    go_ret
    exact ⟨rf (by unfold tmv; rw [if_neg h0]), rfl⟩
end Go.Proofs.Ytnmpofjegepmaaa
