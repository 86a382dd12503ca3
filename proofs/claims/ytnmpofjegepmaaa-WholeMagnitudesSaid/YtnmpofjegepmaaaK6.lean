/- Magnitudes on the axes, roots of squares. -/
import Derived.Test.YtnmpofjegepmaaaK5
namespace Go.Proofs.Ytnmpofjegepmaaa
open Go.RowKit Go.Proofs.Ytnmpofjegepmaaa.Fl Go.Proofs.Ytnmpofjegepmaaa.Pt
open Ieee

theorem sqrt_case (x : Nat) : Extern.MathSqrt.sqrt #[.float .f64 x] = (match FloatKind.f64.format.sqrt x with | some r => pure (.float .f64 r) | none => do pure (.float .f64 (← choose (.nanBits .f64 x x)))) := rfl
theorem sqrt_run {x r : Nat} (h : double.sqrt x = some r) (w : World) : (callFunc 111 #[.float .f64 x]).run Try.prog w = .ok (.value (.float .f64 r)) w := by
  have e : (callFunc 111 #[.float .f64 x]).run Try.prog w = (Extern.MathSqrt.sqrt #[.float .f64 x] >>= fun v => pure (Next.value v)).run Try.prog w := by kernel_rfl
  rw [e, sqrt_case, show FloatKind.f64.format.sqrt x = some r from h]
  rfl
theorem msqrt_ex {x k : Nat} (hx : EX x ((k : Int) * k) 1074) (h0 : 0 < k) (hk : k < 67108864) (w : World) : Calls Try.prog 94 #[.float .f64 x] w fun e w' => ∃ r, e = .returned (.float .f64 r) ∧ EX r (k : Int) 1074 ∧ w' = w := by
  obtain ⟨r, h, hr⟩ := sqrt_ex hx h0 hk
  have hrun := sqrt_run h
  go_enter Try.func94, Try.ntmps94
  go_wp2
  go_ret
  exact ⟨r, rfl, hr, rfl⟩
theorem abs_ex {u : Nat} {A : Int} {k : Nat} (h : EX u A k) : EX (u % SG) (A.natAbs : Int) k := by
  have hm := h.mag
  have hr := h.1.2
  have h1 : u % SG < SG := Nat.mod_lt _ (by decide)
  refine ⟨⟨Nat.lt_trans h1 (by decide), by rw [Nat.mod_mod]; exact hr⟩, ?_⟩
  unfold ky
  rw [Nat.mod_mod, hm]
  have : decide (SG ≤ u % SG) = false := by simp; omega
  rw [this]
  simp [sg]
theorem ex_zero {x k : Nat} (h : EX x 0 k) : x % SG = 0 := by
  have hm := h.mag
  simp only [Int.natAbs_zero, Nat.zero_mul] at hm
  exact V_inj (hm.trans V_zero.symm)
theorem ex_pos {x k : Nat} {A : Int} (h : EX x A k) (hA : A ≠ 0) : x % SG ≠ 0 := by
  intro h0
  have hm := h.mag
  rw [h0, V_zero] at hm
  have : 0 < A.natAbs * 2 ^ k := Nat.mul_pos (by omega) (Nat.two_pow_pos _)
  omega
theorem quo_zero_ex {x k : Nat} {A : Int} (h : EX x A k) (hA : A ≠ 0) (m : Nat) (hm : m ≤ 2044) : EX (N2 .quo 0 x) 0 m := by
  have hn := ex_pos h hA
  have hmg : mg (x % SG) ≠ 0 := by
    unfold mg
    have : ON = 4503599627370496 := by decide
    split <;> omega
  have hz : double.read 0 = .number false 0 (-1074) := by decide
  obtain ⟨s, hq⟩ : ∃ s, double.div 0 x = some (wd s (RN (0 * 2 ^ m) 0)) := by
    refine ⟨decide (SG ≤ x), ?_⟩
    unfold Format.div
    rw [hz, read_fin h.1]
    unfold Datum.quotient
    simp only
    rw [if_neg hmg]
    simp only [Nat.zero_shiftLeft, Nat.zero_div, Nat.zero_mod, Option.map_some, bne_self_eq_false, Bool.toNat_false, Nat.mul_zero, Nat.add_zero, Bool.false_xor]
    rw [write_number, RN_0, Nat.zero_mul, RN_0]
  have hN : N2 .quo 0 x = _ := N2_of (op := .quo) hq
  rw [hN]
  exact EX_of (EX_wd s 0 m (by omega) hm) (by unfold sg; split <;> simp)
theorem ord_pos {x : Nat} (hx : x < 9223372036854775808) (hn : nan x = false) (h0 : x ≠ 0) : FloatKind.f64.format.order x 0 = some Ordering.gt ∧ FloatKind.f64.format.order 0 x = some Ordering.lt := by
  have n0 : nan 0 = false := by decide
  have r0 : rk 0 = 0 := by decide
  have r1 : rk x = x := by unfold rk; rw [if_neg (by simp only [SG]; omega)]
  constructor
  · show double.order x 0 = _
    rw [order_eq (by omega) (by decide), hn, n0, r0, r1, cmp_gt (by omega)]; rfl
  · show double.order 0 x = _
    rw [order_eq (by decide) (by omega), hn, n0, r0, r1, cmp_lt (by omega)]; rfl
end Go.Proofs.Ytnmpofjegepmaaa
