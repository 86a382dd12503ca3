/- cplx.Sqrt of squares. -/
import Derived.Test.YtnmpofjegepmaaaK7
namespace Go.Proofs.Ytnmpofjegepmaaa
open Go.RowKit Go.Proofs.Ytnmpofjegepmaaa.Fl Go.Proofs.Ytnmpofjegepmaaa.Pt

theorem ord_ky {x y : Nat} (hx : fin x) (hy : fin y) : FloatKind.f64.format.order x y = some (compare (ky x) (ky y)) := by
  show Ieee.double.order x y = _
  rw [order_eq hx.1 hy.1, fin_nan hx, fin_nan hy, cmp_ky hx.1 hy.1]; rfl
theorem fin0 : fin 0 := ⟨by decide, by decide⟩
theorem ky0 : ky 0 = 0 := by decide
theorem EX.gt0 {x k : Nat} {A : Int} (h : EX x A k) (hA : 0 < A) : FloatKind.f64.format.order x 0 = some Ordering.gt := by
  rw [ord_ky h.1 fin0, ky0, h.2]
  rw [cmp_gt (Int.mul_pos hA (by exact_mod_cast Nat.two_pow_pos k))]
theorem EX.lt0 {x k : Nat} {A : Int} (h : EX x A k) (hA : A < 0) : FloatKind.f64.format.order x 0 = some Ordering.lt := by
  rw [ord_ky h.1 fin0, ky0, h.2]
  rw [cmp_lt (Int.mul_neg_of_neg_of_pos hA (by exact_mod_cast Nat.two_pow_pos k))]
theorem fin_great : fin 9110782046170513408 := ⟨by decide, by decide⟩
theorem fin_small : fin 553942754166571008 := ⟨by decide, by decide⟩
set_option exponentiation.threshold 4000 in
theorem ky_great : ky 9110782046170513408 = ((2 ^ 2074 : Nat) : Int) := by decide +kernel
set_option exponentiation.threshold 4000 in
theorem ky_small : ky 553942754166571008 = ((2 ^ 174 : Nat) : Int) := by decide +kernel
set_option exponentiation.threshold 4000 in
theorem EX.not_great {x k : Nat} (h : EX x (k : Int) 1074) (hk : k < 9007199254740992) : FloatKind.f64.format.order x 9110782046170513408 = some Ordering.lt := by
  rw [ord_ky h.1 fin_great, ky_great, h.2]
  rw [cmp_lt]
  have h1 : k * 2 ^ 1074 < 2 ^ 53 * 2 ^ 1074 := Nat.mul_lt_mul_of_pos_right (by simpa using hk) (Nat.two_pow_pos _)
  have h2 : (2 : Nat) ^ 53 * 2 ^ 1074 ≤ 2 ^ 2074 := by rw [← Nat.pow_add]; exact Nat.pow_le_pow_right (by decide) (by decide)
  exact_mod_cast Nat.lt_of_lt_of_le h1 h2
set_option exponentiation.threshold 4000 in
theorem EX.not_small {x k : Nat} (h : EX x (k : Int) 1074) (hk : 0 < k) : FloatKind.f64.format.order x 553942754166571008 = some Ordering.gt := by
  rw [ord_ky h.1 fin_small, ky_small, h.2]
  rw [cmp_gt]
  have h1 : (2 : Nat) ^ 174 < 2 ^ 1074 := Nat.pow_lt_pow_right (by decide) (by decide)
  have h2 : 2 ^ 1074 ≤ k * 2 ^ 1074 := Nat.le_mul_of_pos_left _ hk
  exact_mod_cast Nat.lt_of_lt_of_le h1 h2
theorem half_ex : EX 4602678819172646912 1 1073 := by refine ⟨⟨by decide, by decide⟩, ?_⟩; decide +kernel
theorem two_ex : EX 4611686018427387904 2 1074 := by refine ⟨⟨by decide, by decide⟩, ?_⟩; decide +kernel
theorem EX.down {u : Nat} {n : Int} {m : Nat} (h : EX u (n * 2) m) : EX u n (m + 1) := by
  refine ⟨h.1, ?_⟩
  rw [h.2, Nat.pow_succ]
  push_cast
  rw [Int.mul_assoc, Int.mul_comm 2]
/-- (|x| + |a|)/2 = k². -/
theorem half_sum {x r s p k : Nat} (hx : EX x ((k * k : Nat) : Int) 1074) (hr : EX r ((k * k : Nat) : Int) 1074) (hk : k < 1048576) (H1 : Ar .add x r s) (H2 : Ar .mul s 4602678819172646912 p) : EX p ((k : Int) * k) 1074 := by
  have hkk : k * k < 1099511627776 := by
    have : k * k < 1048576 * 1048576 := Nat.mul_lt_mul'' hk hk
    simpa using this
  have e1 := EX.of_cn H1.2 (add_ex hx hr (by omega) (by omega))
  have e2 := EX.of_cn H2.2 (mul_ex (m := 1073) e1 half_ex (by omega) (by omega) (by omega))
  have e3 : EX p (((k * k : Nat) : Int) * 2) 1073 := EX_of e2 (by omega)
  exact EX_of e3.down (by push_cast; rfl)
theorem half_quo {r t v k : Nat} (hr : EX r (k : Int) 1074) (h0 : 0 < k) (hk : k < 1048576) (H1 : Ar .mul 4611686018427387904 r t) (H2 : Ar .quo 0 t v) : EX v 0 1074 := by
  have e1 := EX.of_cn H1.2 (mul_ex (m := 1074) two_ex hr (by omega) (by omega) (by omega))
  exact EX.of_cn H2.2 (quo_zero_ex e1 (by omega) 1074 (by omega))
theorem EX.nn {x k : Nat} {A : Int} (h : EX x A k) (hA : 0 < A) : x < 9223372036854775808 := by
  have hs := h.sgn
  cases hd : decide (SG ≤ x)
  · simpa [SG] using hd
  · rw [hd] at hs; simp only [sg, if_true] at hs; omega
end Go.Proofs.Ytnmpofjegepmaaa
