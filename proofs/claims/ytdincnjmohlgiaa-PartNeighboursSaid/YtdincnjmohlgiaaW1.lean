/- Contracts of layer 1 (part), the program's and the reference's: the functions without loops. -/
import Derived.Test.YtdincnjmohlgiaaPt
import Derived.Test.YtdincnjmohlgiaaRows
import Derived.WalkKit
import Derived.WalkSpells
import Derived.WalkLawsBesides
namespace Go.Proofs.Ytdincnjmohlgiaa
open Go.RowKit Go.Proofs.Ytdincnjmohlgiaa.Fl Go.Proofs.Ytdincnjmohlgiaa.Pt

theorem ri {k : IntKind} {a b : Int} (h : a = b) : Ending.returned (.int k a) = Ending.returned (.int k b) := by rw [h]
theorem rb {a b : Bool} (h : a = b) : Ending.returned (.bool a) = Ending.returned (.bool b) := by rw [h]
theorem rf {a b : Nat} (h : a = b) : Ending.returned (.float .f64 a) = Ending.returned (.float .f64 b) := by rw [h]

@[go_sem] theorem bits_call (b : Nat) (w : World) : (callFunc 50 #[.float .f64 b]).run Try.prog w = .ok (.value (.int .u64 b)) w := by kernel_rfl
@[go_sem] theorem frombits_call (n : Int) (w : World) : (callFunc 62 #[.int .u64 n]).run Try.prog w = .ok (.value (.float .f64 n.toNat)) w := by kernel_rfl

theorem andNot_sg (b : Nat) (hb : b < 18446744073709551616) : bits .andNot .u64 (b : Int) 9223372036854775808 = ((b % 9223372036854775808 : Nat) : Int) := by
  have h1 : (BitVec.ofInt 64 (b : Int)).toNat = b := by
    rw [BitVec.ofInt_natCast, BitVec.toNat_ofNat]; exact Nat.mod_eq_of_lt (by omega)
  have h2 : ~~~BitVec.ofInt 64 (9223372036854775808 : Int) = 9223372036854775807#64 := by decide
  show IntKind.u64.wrap ((BitVec.ofInt 64 (b : Int) &&& ~~~BitVec.ofInt 64 (9223372036854775808 : Int)).toNat : Int) = _
  rw [h2, BitVec.toNat_and, h1, IntKind.wrap_u64]
  have h3 : b &&& (9223372036854775807#64).toNat = b % 2 ^ 63 := Nat.and_two_pow_sub_one_eq_mod b 63
  rw [h3]
  omega

theorem of_any (b : Nat) (hb : b < 18446744073709551616) (w : World) :
    Calls Try.prog 18 #[.float .f64 b] w fun e w' => e = .returned (.int .i64 (cls b)) ∧ w = w' := by
  have h1 := andNot_sg b hb
  obtain ⟨c, f, p, c1, _, p1, _, hc, hf, hp, H⟩ := names b hb
  rw [← H.out.1] at h1
  rcases of_ways H.out.1 H.out.2.2 with ⟨g0, R⟩ | ⟨g0, g1, R⟩ | ⟨g0, g1, g2, R⟩ | ⟨g0, g1, g2, g3, R⟩ | ⟨g0, g1, g2, g3, R⟩
  all_goals
    go_enter Try.func18, Try.ntmps18
    go_wp2
    go_ret
    exact ⟨ri R.out, rfl⟩

theorem class_any (b : Nat) (hb : b < 18446744073709551616) (w : World) :
    Calls Try.prog 19 #[.float .f64 b] w fun e w' => e = .returned (.int .i64 (cls b)) ∧ w = w' := by
  obtain ⟨c, f, p, c1, _, p1, _, hc, hf, hp, H⟩ := names b hb
  rcases class_ways H.out.1 with ⟨g0, R⟩ | ⟨g0, g1, R⟩ | ⟨g0, g1, g2, R⟩ | ⟨g0, g1, g2, g3, R⟩ | ⟨g0, g1, g2, g3, R⟩
  all_goals
    go_enter Try.func19, Try.ntmps19
    go_wp2
    go_ret
    exact ⟨ri R.out, rfl⟩

/-- What Split answers. -/
def splitV (b : Nat) : Value := if 3 ≤ cls b then .tuple #[.bool false, .int .u64 0, .int .i64 0, .int .i64 5] else .tuple #[.bool (sgb b), .int .u64 (spm b), .int .i64 (spe b), .int .i64 0]

theorem split_any (b : Nat) (hb : b < 18446744073709551616) (w : World) :
    Calls Try.prog 15 #[.float .f64 b] w fun e w' => e = .returned (splitV b) ∧ w = w' := by
  have h1 := andNot_sg b hb
  obtain ⟨c, f, p, c1, f1, p1, f2, hc, hf, hp, H⟩ := names b hb
  rw [← H.out.1] at h1
  have hs : decide ((9223372036854775808 : Int) ≤ b) = sgb b := by unfold sgb; rw [decide_eq_decide]; simp only [SG]; omega
  rcases split_ways H.out.1 H.out.2.1 H.out.2.2 with ⟨g0, R⟩ | ⟨g0, g1, _, g2, R⟩ | ⟨g0, g1, _, g2, R⟩
  · go_enter Try.func15, Try.ntmps15
    go_wp2_with (go_at_call 18; refine (of_any b hb _).mono ?_; rintro e w' ⟨rfl, rfl⟩)
    exact bodyPost_ret (v := .tuple #[.bool false, .int .u64 0, .int .i64 0, .int .i64 5]) (by simp [results, Try.results15, go_sem]) rfl ⟨by unfold splitV; rw [if_pos R.out], rfl⟩
  · go_enter Try.func15, Try.ntmps15
    go_wp2_with (go_at_call 18; refine (of_any b hb _).mono ?_; rintro e w' ⟨rfl, rfl⟩)
    exact bodyPost_ret (v := .tuple #[.bool (sgb b), .int .u64 f, .int .i64 (p + -1074), .int .i64 0]) (by simp [results, Try.results15, go_sem]) rfl ⟨by unfold splitV; rw [if_neg (by have := R.out; omega), R.out.2.1, R.out.2.2.1], rfl⟩
  · go_enter Try.func15, Try.ntmps15
    go_wp2_with (go_at_call 18; refine (of_any b hb _).mono ?_; rintro e w' ⟨rfl, rfl⟩)
    exact bodyPost_ret (v := .tuple #[.bool (sgb b), .int .u64 (f + 4503599627370496), .int .i64 (p - 1 + -1074), .int .i64 0]) (by simp [results, Try.results15, go_sem]) rfl ⟨by unfold splitV; rw [if_neg (by have := R.out; omega), R.out.2.1, R.out.2.2.1], rfl⟩
end Go.Proofs.Ytdincnjmohlgiaa
