/- Contracts of part.Of, cplx.Of and cplx.Finite. -/
import Derived.Test.YtnmpofjegepmaaaPt
import Derived.Test.YtnmpofjegepmaaaC2
namespace Go.Proofs.Ytnmpofjegepmaaa
open Go.RowKit Go.Proofs.Ytnmpofjegepmaaa.Fl Go.Proofs.Ytnmpofjegepmaaa.Pt

theorem ri {k : IntKind} {a b : Int} (h : a = b) : Ending.returned (.int k a) = Ending.returned (.int k b) := by rw [h]
theorem rb {a b : Bool} (h : a = b) : Ending.returned (.bool a) = Ending.returned (.bool b) := by rw [h]
theorem rf {a b : Nat} (h : a = b) : Ending.returned (.float .f64 a) = Ending.returned (.float .f64 b) := by rw [h]

@[go_sem] theorem bits_call (b : Nat) (w : World) : (callFunc 90 #[.float .f64 b]).run Try.prog w = .ok (.value (.int .u64 b)) w := by kernel_rfl
@[go_sem] theorem frombits_call (n : Int) (w : World) : (callFunc 27 #[.int .u64 n]).run Try.prog w = .ok (.value (.float .f64 n.toNat)) w := by kernel_rfl

theorem andNot_sg (b : Nat) (hb : b < 18446744073709551616) : bits .andNot .u64 (b : Int) 9223372036854775808 = ((b % 9223372036854775808 : Nat) : Int) := by
  have h1 : (BitVec.ofInt 64 (b : Int)).toNat = b := by
    rw [BitVec.ofInt_natCast, BitVec.toNat_ofNat]; exact Nat.mod_eq_of_lt (by omega)
  have h2 : ~~~BitVec.ofInt 64 (9223372036854775808 : Int) = 9223372036854775807#64 := by decide
  show IntKind.u64.wrap ((BitVec.ofInt 64 (b : Int) &&& ~~~BitVec.ofInt 64 (9223372036854775808 : Int)).toNat : Int) = _
  rw [h2, BitVec.toNat_and, h1, IntKind.wrap_u64]
  have h3 : b &&& (9223372036854775807#64).toNat = b % 2 ^ 63 := Nat.and_two_pow_sub_one_eq_mod b 63
  rw [h3]
  omega

theorem of_any (b : Nat) (hb : b < 18446744073709551616) (w : World) :
    Calls Try.prog 106 #[.float .f64 b] w fun e w' => e = .returned (.int .i64 (cls b)) ∧ w = w' := by
  have h1 := andNot_sg b hb
  obtain ⟨c, f, p, c1, _, p1, _, hc, hf, hp, H⟩ := names b hb
  rw [← H.out.1] at h1
  rcases of_ways H.out.1 H.out.2.2 with ⟨g0, R⟩ | ⟨g0, g1, R⟩ | ⟨g0, g1, g2, R⟩ | ⟨g0, g1, g2, g3, R⟩ | ⟨g0, g1, g2, g3, R⟩
  all_goals
    go_enter Try.func106, Try.ntmps106
    go_wp2
    go_ret
    exact ⟨ri R.out, rfl⟩

theorem cls_le (b : Nat) : cls b ≤ 4 := by unfold cls; (repeat' split) <;> omega

/-- The kind of the greater part. -/
theorem cof_any (a b : Nat) (ha : a < 18446744073709551616) (hb : b < 18446744073709551616) (w : World) :
    Calls Try.prog 97 #[.complex .f64 a b] w fun e w' => e = .returned (.int .i64 (max (cls a : Int) (cls b))) ∧ w = w' := by
  go_enter Try.func97, Try.ntmps97
  go_wp2_with (go_at_call 106; refine (of_any _ (by assumption) _).mono ?_; rintro e w' ⟨rfl, rfl⟩)
  all_goals
    go_ret
    exact ⟨ri (by omega), rfl⟩

/-- Are both parts numbers? -/
def finB (a b : Nat) : Bool := decide (max (cls a : Int) (cls b) < 3)
theorem finB_eq (a b : Nat) : finB a b = (decide (a % SG < INF) && decide (b % SG < INF)) := by
  have h : ∀ c, (cls c : Int) < 3 ↔ c % SG < INF := by
    intro c; unfold cls; simp only [SG, ON, INF]; (repeat' split) <;> omega
  unfold finB
  rw [Bool.eq_iff_iff]
  simp only [decide_eq_true_eq, Bool.and_eq_true, ← h]
  omega

theorem finite_any (a b : Nat) (ha : a < 18446744073709551616) (hb : b < 18446744073709551616) (w : World) :
    Calls Try.prog 70 #[.complex .f64 a b] w fun e w' => e = .returned (.bool (finB a b)) ∧ w = w' := by
  go_enter Try.func70, Try.ntmps70
  go_wp2_with (go_at_call 97; refine (cof_any _ _ ha hb _).mono ?_; rintro e w' ⟨rfl, rfl⟩)
  go_ret
  exact ⟨rfl, rfl⟩
end Go.Proofs.Ytnmpofjegepmaaa
