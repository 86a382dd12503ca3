/- Contracts of layer 1 (part) and of math: at this translation. -/
import Derived.Test.YtnghppgpdeghfaaGreatDoorPj
import Derived.Test.YtnghppgpdeghfaaGreatDoorShelf
import Derived.Test.YtnghppgpdeghfaaGreatDoorProg
import Derived.WalkKit
import Derived.WalkSpells
import Derived.WalkLawsBesides
namespace Go.Proofs.YtnghppgpdeghfaaGreatDoor
open Go.RowKit Go.Proofs.YtnghppgpdeghfaaGreatDoor.Fl Go.Proofs.YtnghppgpdeghfaaGreatDoor.Pt

theorem ri {k : IntKind} {a b : Int} (h : a = b) : Ending.returned (.int k a) = Ending.returned (.int k b) := by rw [h]
theorem rb {a b : Bool} (h : a = b) : Ending.returned (.bool a) = Ending.returned (.bool b) := by rw [h]
theorem rf {a b : Nat} (h : a = b) : Ending.returned (.float .f64 a) = Ending.returned (.float .f64 b) := by rw [h]

@[go_sem] theorem bits_call (b : Nat) (w : World) : (callFunc 51 #[.float .f64 b]).run Tryz.prog w = .ok (.value (.int .u64 b)) w := by kernel_rfl
@[go_sem] theorem frombits_call (n : Int) (w : World) : (callFunc 82 #[.int .u64 n]).run Tryz.prog w = .ok (.value (.float .f64 n.toNat)) w := by kernel_rfl

theorem andNot_sg (b : Nat) (hb : b < 18446744073709551616) : bits .andNot .u64 (b : Int) 9223372036854775808 = ((b % 9223372036854775808 : Nat) : Int) := by
  have h1 : (BitVec.ofInt 64 (b : Int)).toNat = b := by
    rw [BitVec.ofInt_natCast, BitVec.toNat_ofNat]; exact Nat.mod_eq_of_lt (by omega)
  have h2 : ~~~BitVec.ofInt 64 (9223372036854775808 : Int) = 9223372036854775807#64 := by decide
  show IntKind.u64.wrap ((BitVec.ofInt 64 (b : Int) &&& ~~~BitVec.ofInt 64 (9223372036854775808 : Int)).toNat : Int) = _
  rw [h2, BitVec.toNat_and, h1, IntKind.wrap_u64]
  have h3 : b &&& (9223372036854775807#64).toNat = b % 2 ^ 63 := Nat.and_two_pow_sub_one_eq_mod b 63
  rw [h3]
  omega

theorem of_any (b : Nat) (hb : b < 18446744073709551616) (w : World) :
    Calls Tryz.prog 66 #[.float .f64 b] w fun e w' => e = .returned (.int .i64 (cls b)) ∧ w = w' := by
  have h1 := andNot_sg b hb
  obtain ⟨c, f, p, c1, _, p1, _, hc, hf, hp, H⟩ := names b hb
  rw [← H.out.1] at h1
  rcases of_ways H.out.1 H.out.2.2 with ⟨g0, R⟩ | ⟨g0, g1, R⟩ | ⟨g0, g1, g2, R⟩ | ⟨g0, g1, g2, g3, R⟩ | ⟨g0, g1, g2, g3, R⟩
  all_goals
    go_enter Tryz.func66, Tryz.ntmps66
    go_wp2
    go_ret
    exact ⟨ri R.out, rfl⟩

/-- What Split answers. -/
def splitV (b : Nat) : Value := if 3 ≤ cls b then .tuple #[.bool false, .int .u64 0, .int .i64 0, .int .i64 5] else .tuple #[.bool (sgb b), .int .u64 (spm b), .int .i64 (spe b), .int .i64 0]

theorem split_any (b : Nat) (hb : b < 18446744073709551616) (w : World) :
    Calls Tryz.prog 54 #[.float .f64 b] w fun e w' => e = .returned (splitV b) ∧ w = w' := by
  have h1 := andNot_sg b hb
  obtain ⟨c, f, p, c1, f1, p1, f2, hc, hf, hp, H⟩ := names b hb
  rw [← H.out.1] at h1
  have hs : decide ((9223372036854775808 : Int) ≤ b) = sgb b := by unfold sgb; rw [decide_eq_decide]; simp only [SG]; omega
  rcases split_ways H.out.1 H.out.2.1 H.out.2.2 with ⟨g0, R⟩ | ⟨g0, g1, _, g2, R⟩ | ⟨g0, g1, _, g2, R⟩
  · go_enter Tryz.func54, Tryz.ntmps54
    go_wp2_with (go_at_call 66; refine (of_any b hb _).mono ?_; rintro e w' ⟨rfl, rfl⟩)
    exact bodyPost_ret (v := .tuple #[.bool false, .int .u64 0, .int .i64 0, .int .i64 5]) (by simp [results, Tryz.results54, go_sem]) rfl ⟨by unfold splitV; rw [if_pos R.out], rfl⟩
  · go_enter Tryz.func54, Tryz.ntmps54
    go_wp2_with (go_at_call 66; refine (of_any b hb _).mono ?_; rintro e w' ⟨rfl, rfl⟩)
    exact bodyPost_ret (v := .tuple #[.bool (sgb b), .int .u64 f, .int .i64 (p + -1074), .int .i64 0]) (by simp [results, Tryz.results54, go_sem]) rfl ⟨by unfold splitV; rw [if_neg (by have := R.out; omega), R.out.2.1, R.out.2.2.1], rfl⟩
  · go_enter Tryz.func54, Tryz.ntmps54
    go_wp2_with (go_at_call 66; refine (of_any b hb _).mono ?_; rintro e w' ⟨rfl, rfl⟩)
    exact bodyPost_ret (v := .tuple #[.bool (sgb b), .int .u64 (f + 4503599627370496), .int .i64 (p - 1 + -1074), .int .i64 0]) (by simp [results, Tryz.results54, go_sem]) rfl ⟨by unfold splitV; rw [if_neg (by have := R.out; omega), R.out.2.1, R.out.2.2.1], rfl⟩
theorem abs_any (b : Nat) (hb : b < 18446744073709551616) (w : World) :
    Calls Tryz.prog 65 #[.float .f64 b] w fun e w' => e = .returned (.float .f64 (b % 9223372036854775808)) ∧ w = w' := by
  have h1 := andNot_sg b hb
  obtain ⟨c, hc⟩ : ∃ c, c = b % 9223372036854775808 := ⟨_, rfl⟩
  rw [← hc] at h1
  have HC := Lib.hid hc
  clear hc
  go_enter Tryz.func65, Tryz.ntmps65
  go_wp2
  go_ret
  exact ⟨rf HC.out, rfl⟩

/-- Is it the infinity? -/
theorem isinf_pos (b : Nat) (hb : b < 18446744073709551616) (w : World) :
    Calls Tryz.prog 53 #[.float .f64 b, .int .i64 1] w fun e w' => e = .returned (.bool (decide (b = INF))) ∧ w = w' := by
  have h1 := inf_gt hb
  go_enter Tryz.func53, Tryz.ntmps53
  go_wp2
  go_ret
  exact ⟨rfl, rfl⟩

@[go_sem] theorem unary_neg_float (k : FloatKind) (b : Nat) : Op.unary .neg (.float k b) = pure (.float k (Op.negFloat k b)) := rfl

theorem negFloat_ng (b : Nat) (hb : b < 18446744073709551616) : Op.negFloat .f64 b = ng b := by
  have hx : b ^^^ 9223372036854775808 = ng b := by
    unfold ng; simp only [SG]
    by_cases h : 9223372036854775808 ≤ b
    · rw [if_pos h]
      have e : b = (b - 9223372036854775808) ||| 9223372036854775808 := by
        have := Nat.two_pow_add_eq_or_of_lt (i := 63) (b := b - 9223372036854775808) (by omega) 1
        rw [Nat.mul_one, Nat.or_comm] at this
        rw [← this]; omega
      apply Nat.eq_of_testBit_eq
      intro i
      rw [Nat.testBit_xor]
      have t1 : Nat.testBit 9223372036854775808 i = decide (63 = i) := @Nat.testBit_two_pow 63 i
      rw [t1]
      by_cases hi : 63 = i
      · subst hi
        have t2 : Nat.testBit b 63 = true := by rw [e, Nat.testBit_or, t1]; simp
        have t3 : Nat.testBit (b - 9223372036854775808) 63 = false := Nat.testBit_lt_two_pow (by omega)
        rw [t2, t3]; rfl
      · conv => lhs; rw [e]
        rw [Nat.testBit_or, t1]
        simp [hi]
    · rw [if_neg h]
      have := Nat.two_pow_add_eq_or_of_lt (i := 63) (b := b) (by omega) 1
      rw [Nat.mul_one] at this
      have e : b + 9223372036854775808 = 9223372036854775808 ||| b := by rw [← this]; omega
      rw [e]
      apply Nat.eq_of_testBit_eq
      intro i
      rw [Nat.testBit_xor, Nat.testBit_or]
      have t1 : Nat.testBit 9223372036854775808 i = decide (63 = i) := @Nat.testBit_two_pow 63 i
      rw [t1]
      by_cases hi : 63 = i
      · subst hi
        have t3 : Nat.testBit b 63 = false := Nat.testBit_lt_two_pow (by omega)
        rw [t3]; rfl
      · simp [hi]
  exact hx

theorem isinf_neg (b : Nat) (hb : b < 18446744073709551616) (w : World) :
    Calls Tryz.prog 53 #[.float .f64 b, .int .i64 (-1)] w fun e w' => e = .returned (.bool (decide (ng b = INF))) ∧ w = w' := by
  have h1 := inf_gt (ng_lt hb)
  have h2 := negFloat_ng b hb
  go_enter Tryz.func53, Tryz.ntmps53
  go_wp2
  go_ret
  exact ⟨rfl, rfl⟩

theorem or_sg (m : Nat) (h : m < 9223372036854775808) : bits .or .u64 (m : Int) 9223372036854775808 = ((m + 9223372036854775808 : Nat) : Int) := by
  have h1 : (BitVec.ofInt 64 (m : Int)).toNat = m := by
    rw [BitVec.ofInt_natCast, BitVec.toNat_ofNat]; exact Nat.mod_eq_of_lt (by omega)
  have h2 : (BitVec.ofInt 64 (9223372036854775808 : Int)).toNat = 9223372036854775808 := by decide
  show IntKind.u64.wrap ((BitVec.ofInt 64 (m : Int) ||| BitVec.ofInt 64 (9223372036854775808 : Int)).toNat : Int) = _
  rw [BitVec.toNat_or, h1, h2, IntKind.wrap_u64]
  have h3 := Nat.two_pow_add_eq_or_of_lt (i := 63) (b := m) (by omega) 1
  rw [Nat.mul_one, Nat.or_comm] at h3
  have h4 : m ||| 9223372036854775808 = m + 9223372036854775808 := by
    have : (2 : Nat) ^ 63 = 9223372036854775808 := by decide
    rw [this] at h3; omega
  rw [h4]; omega

theorem or_0 (m : Nat) (h : m < 18446744073709551616) : bits .or .u64 (m : Int) 0 = (m : Int) := by
  have h1 : (BitVec.ofInt 64 (m : Int)).toNat = m := by
    rw [BitVec.ofInt_natCast, BitVec.toNat_ofNat]; exact Nat.mod_eq_of_lt (by omega)
  show IntKind.u64.wrap ((BitVec.ofInt 64 (m : Int) ||| BitVec.ofInt 64 (0 : Int)).toNat : Int) = _
  rw [BitVec.toNat_or, h1, IntKind.wrap_u64]
  have : (BitVec.ofInt 64 (0 : Int)).toNat = 0 := by decide
  rw [this, Nat.or_zero]; omega

theorem and_sg (m : Nat) (h : m < 18446744073709551616) : bits .and .u64 (m : Int) 9223372036854775808 = if 9223372036854775808 ≤ m then 9223372036854775808 else 0 := by
  have h1 : (BitVec.ofInt 64 (m : Int)).toNat = m := by
    rw [BitVec.ofInt_natCast, BitVec.toNat_ofNat]; exact Nat.mod_eq_of_lt (by omega)
  have h2 : (BitVec.ofInt 64 (9223372036854775808 : Int)).toNat = 9223372036854775808 := by decide
  show IntKind.u64.wrap ((BitVec.ofInt 64 (m : Int) &&& BitVec.ofInt 64 (9223372036854775808 : Int)).toNat : Int) = _
  rw [BitVec.toNat_and, h1, h2, IntKind.wrap_u64]
  have h3 : m &&& 9223372036854775808 = if 9223372036854775808 ≤ m then 9223372036854775808 else 0 := by
    apply Nat.eq_of_testBit_eq
    intro i
    rw [Nat.testBit_and]
    have t1 : Nat.testBit 9223372036854775808 i = decide (63 = i) := @Nat.testBit_two_pow 63 i
    rw [t1]
    by_cases hi : 63 = i
    · subst hi
      by_cases h4 : 9223372036854775808 ≤ m
      · rw [if_pos h4]
        have : Nat.testBit m 63 = true := by rw [Nat.testBit_eq_decide_div_mod_eq]; simp; omega
        rw [this, t1]; rfl
      · rw [if_neg h4]
        have : Nat.testBit m 63 = false := Nat.testBit_lt_two_pow (by omega)
        rw [this]; simp
    · split
      · rw [t1]; simp [hi]
      · simp [hi]
  rw [h3]; split <;> simp

theorem copysign_any (x b : Nat) (hx : x < 9223372036854775808) (hb : b < 18446744073709551616) (w : World) :
    Calls Tryz.prog 101 #[.float .f64 x, .float .f64 b] w fun e w' => e = .returned (.float .f64 (x + sgw b)) ∧ w = w' := by
  have h1 := andNot_sg x (by omega)
  have h2 := and_sg b hb
  rw [Nat.mod_eq_of_lt hx] at h1
  by_cases h : 9223372036854775808 ≤ b
  · rw [if_pos h] at h2
    have h3 := or_sg x hx
    have hs : sgw b = SG := by unfold sgw; simp only [SG]; rw [if_pos h]
    rw [hs]
    go_enter Tryz.func101, Tryz.ntmps101
    go_wp2
    go_ret
    exact ⟨rfl, rfl⟩
  · rw [if_neg h] at h2
    have h3 := or_0 x (by omega)
    have hs : sgw b = 0 := by unfold sgw; simp only [SG]; rw [if_neg h]
    rw [hs]
    go_enter Tryz.func101, Tryz.ntmps101
    go_wp2
    go_ret
    exact ⟨rfl, rfl⟩

theorem signed_any (n : Bool) (m : Int) (h0 : 0 ≤ m) (hb : m < 9223372036854775808) (w : World) :
    Calls Tryz.prog 95 #[.bool n, .int .u64 m] w fun e w' => e = .returned (.float .f64 (wd n m.toNat)) ∧ w = w' := by
  obtain ⟨m, rfl⟩ := Int.eq_ofNat_of_zero_le h0
  have h1 := or_sg m (by omega)
  cases n
  all_goals
    go_enter Tryz.func95, Tryz.ntmps95
    go_wp2
    go_ret
    exact ⟨rf (by unfold wd; simp [SG]; try omega), rfl⟩

theorem round_any (m : Nat) (hm : m < 18446744073709551616) (s : Int) (h1 : 1 ≤ s) (w : World) :
    Calls Tryz.prog 97 #[.int .u64 m, .int .i64 s] w fun e w' => e = .returned (.int .u64 (rnd m s.toNat)) ∧ w = w' := by
  obtain ⟨n, rfl⟩ := Int.eq_ofNat_of_zero_le (show 0 ≤ s by omega)
  rw [Int.toNat_natCast]
  by_cases h2 : n ≤ 64
  · obtain ⟨h, t, k, r, q, a1, a2, a3, a4, a5, a6, H⟩ := round_names m n hm (by omega) h2
    rcases round_ways (by omega) H.out.1 H.out.2.1 H.out.2.2 with ⟨g0, R⟩ | ⟨g0, g1, g2, R⟩ | ⟨g0, g1, g2, R⟩ | ⟨g0, g1, R⟩
    all_goals
      go_enter Tryz.func97, Tryz.ntmps97
      go_wp2
      go_ret
      exact ⟨ri R.out, rfl⟩
  · have e := rnd_great hm (s := n) (by omega)
    have g0 : decide ((64 : Int) < n) = true := dt (by omega)
    go_enter Tryz.func97, Tryz.ntmps97
    go_wp2
    go_ret
    exact ⟨ri (by rw [e]; rfl), rfl⟩

theorem len_any (x : Int) (w : World) (h0 : 0 ≤ x) (h1 : x ≤ 18446744073709551615) :
    Calls Tryz.prog 96 #[.int .u64 x] w fun e w' => e = .returned (.int .i64 (Lib.bitLen x.toNat)) ∧ w = w' :=
  (Tryz.bits_Len64 x w h0 h1).mono fun _ _ ⟨a, b⟩ => ⟨a, b.symm⟩

set_option maxRecDepth 100000 in
theorem join_any (n : Bool) (m : Int) (e : Int) (m0 : 0 ≤ m) (m1 : m < 18446744073709551616) (w : World) :
    Calls Tryz.prog 76 #[.bool n, .int .u64 m, .int .i64 e] w fun e' w' => e' = .returned (.float .f64 (wd n (joinN m.toNat e))) ∧ w = w' := by
  obtain ⟨m, rfl⟩ := Int.eq_ofNat_of_zero_le m0
  rw [Int.toNat_natCast]
  have gm : m < 18446744073709551616 := by omega
  rcases join_ways m e with ⟨g0, R⟩ | ⟨g0, g1, R⟩ | ⟨g0, g1, g2, R⟩ | ⟨g0, g1, g2, H⟩
  · go_enter Tryz.func76, Tryz.ntmps76
    go_wp2_with (go_at_call 95; refine (signed_any _ _ (by omega) (by omega) _).mono ?_; rintro e w' ⟨rfl, rfl⟩)
    go_ret
    exact ⟨rf (by rw [← R.out]), rfl⟩
  · go_enter Tryz.func76, Tryz.ntmps76
    go_wp2_with (go_at_call 95; refine (signed_any _ _ (by omega) (by omega) _).mono ?_; rintro e w' ⟨rfl, rfl⟩)
    go_ret
    exact ⟨rf (by rw [← R.out]), rfl⟩
  · go_enter Tryz.func76, Tryz.ntmps76
    go_wp2_with (go_at_call 95; refine (signed_any _ _ (by omega) (by omega) _).mono ?_; rintro e w' ⟨rfl, rfl⟩)
    go_ret
    exact ⟨rf (by rw [← R.out]), rfl⟩
  · obtain ⟨h0, e1, e2⟩ := H.out
    obtain ⟨k, K, L, hk, k1, hmx, hL1, hL2, hK, HH, hcs⟩ := join_names gm h0 e1 e2
    rcases join_ends h0 e1 e2 HH.out.1 HH.out.2 hL1 hL2 hK with ⟨hon, R⟩ | ⟨r, hon, hmn, hr, R⟩
    all_goals
      rcases hcs with ⟨hc, hc1, hc2, hs⟩ | ⟨hc, hc1, hs⟩
      all_goals
        go_enter Tryz.func76, Tryz.ntmps76
        go_wp2_with (first | (go_at_call 96; refine (len_any _ _ (by omega) (by omega)).mono ?_; rintro e w' ⟨rfl, rfl⟩) | (go_at_call 95; refine (signed_any _ _ (by omega) (by omega) _).mono ?_; rintro e w' ⟨rfl, rfl⟩) | (go_at_call 97; refine (round_any _ gm _ (by omega) _).mono ?_; rintro e w' ⟨rfl, rfl⟩))
        go_ret
        exact ⟨rf (by rw [R.out]), rfl⟩
end Go.Proofs.YtnghppgpdeghfaaGreatDoor
