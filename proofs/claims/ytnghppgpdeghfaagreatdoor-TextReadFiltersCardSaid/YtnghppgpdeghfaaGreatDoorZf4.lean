/- Contracts of layer 1 (part) and of math: at this translation. Digits, and what they spell. A float's text. How a text is gone through. A number's text, gone through. -/
import Derived.Test.YtnghppgpdeghfaaGreatDoorZf2
import Derived.Test.YtnghppgpdeghfaaGreatDoorZf3
import Derived.Test.YtnghppgpdeghfaaGreatDoorProg
import Derived.WalkKit
import Derived.WalkSpells
import Derived.WalkLawsBesides
import Derived.Lib.ItoaNum
import Derived.Lib.AtoiAllCases
namespace Go.Proofs.YtnghppgpdeghfaaGreatDoor
open Go.RowKit Go.Proofs.YtnghppgpdeghfaaGreatDoor.Fl Go.Proofs.YtnghppgpdeghfaaGreatDoor.Pt

theorem ri {k : IntKind} {a b : Int} (h : a = b) : Ending.returned (.int k a) = Ending.returned (.int k b) := by rw [h]
theorem rb {a b : Bool} (h : a = b) : Ending.returned (.bool a) = Ending.returned (.bool b) := by rw [h]
theorem rf {a b : Nat} (h : a = b) : Ending.returned (.float .f64 a) = Ending.returned (.float .f64 b) := by rw [h]

@[go_sem] theorem bits_call (b : Nat) (w : World) : (callFunc 51 #[.float .f64 b]).run Tryz.prog w = .ok (.value (.int .u64 b)) w := by kernel_rfl
@[go_sem] theorem frombits_call (n : Int) (w : World) : (callFunc 82 #[.int .u64 n]).run Tryz.prog w = .ok (.value (.float .f64 n.toNat)) w := by kernel_rfl

theorem andNot_sg (b : Nat) (hb : b < 18446744073709551616) : bits .andNot .u64 (b : Int) 9223372036854775808 = ((b % 9223372036854775808 : Nat) : Int) := by
  have h1 : (BitVec.ofInt 64 (b : Int)).toNat = b := by
    rw [BitVec.ofInt_natCast, BitVec.toNat_ofNat]; exact Nat.mod_eq_of_lt (by omega)
  have h2 : ~~~BitVec.ofInt 64 (9223372036854775808 : Int) = 9223372036854775807#64 := by decide
  show IntKind.u64.wrap ((BitVec.ofInt 64 (b : Int) &&& ~~~BitVec.ofInt 64 (9223372036854775808 : Int)).toNat : Int) = _
  rw [h2, BitVec.toNat_and, h1, IntKind.wrap_u64]
  have h3 : b &&& (9223372036854775807#64).toNat = b % 2 ^ 63 := Nat.and_two_pow_sub_one_eq_mod b 63
  rw [h3]
  omega

theorem of_any (b : Nat) (hb : b < 18446744073709551616) (w : World) :
    Calls Tryz.prog 66 #[.float .f64 b] w fun e w' => e = .returned (.int .i64 (cls b)) ∧ w = w' := by
  have h1 := andNot_sg b hb
  obtain ⟨c, f, p, c1, _, p1, _, hc, hf, hp, H⟩ := names b hb
  rw [← H.out.1] at h1
  rcases of_ways H.out.1 H.out.2.2 with ⟨g0, R⟩ | ⟨g0, g1, R⟩ | ⟨g0, g1, g2, R⟩ | ⟨g0, g1, g2, g3, R⟩ | ⟨g0, g1, g2, g3, R⟩
  all_goals
    go_enter Tryz.func66, Tryz.ntmps66
    go_wp2
    go_ret
    exact ⟨ri R.out, rfl⟩

/-- What Split answers. -/
def splitV (b : Nat) : Value := if 3 ≤ cls b then .tuple #[.bool false, .int .u64 0, .int .i64 0, .int .i64 5] else .tuple #[.bool (sgb b), .int .u64 (spm b), .int .i64 (spe b), .int .i64 0]

theorem split_any (b : Nat) (hb : b < 18446744073709551616) (w : World) :
    Calls Tryz.prog 54 #[.float .f64 b] w fun e w' => e = .returned (splitV b) ∧ w = w' := by
  have h1 := andNot_sg b hb
  obtain ⟨c, f, p, c1, f1, p1, f2, hc, hf, hp, H⟩ := names b hb
  rw [← H.out.1] at h1
  have hs : decide ((9223372036854775808 : Int) ≤ b) = sgb b := by unfold sgb; rw [decide_eq_decide]; simp only [SG]; omega
  rcases split_ways H.out.1 H.out.2.1 H.out.2.2 with ⟨g0, R⟩ | ⟨g0, g1, _, g2, R⟩ | ⟨g0, g1, _, g2, R⟩
  · go_enter Tryz.func54, Tryz.ntmps54
    go_wp2_with (go_at_call 66; refine (of_any b hb _).mono ?_; rintro e w' ⟨rfl, rfl⟩)
    exact bodyPost_ret (v := .tuple #[.bool false, .int .u64 0, .int .i64 0, .int .i64 5]) (by simp [results, Tryz.results54, go_sem]) rfl ⟨by unfold splitV; rw [if_pos R.out], rfl⟩
  · go_enter Tryz.func54, Tryz.ntmps54
    go_wp2_with (go_at_call 66; refine (of_any b hb _).mono ?_; rintro e w' ⟨rfl, rfl⟩)
    exact bodyPost_ret (v := .tuple #[.bool (sgb b), .int .u64 f, .int .i64 (p + -1074), .int .i64 0]) (by simp [results, Tryz.results54, go_sem]) rfl ⟨by unfold splitV; rw [if_neg (by have := R.out; omega), R.out.2.1, R.out.2.2.1], rfl⟩
  · go_enter Tryz.func54, Tryz.ntmps54
    go_wp2_with (go_at_call 66; refine (of_any b hb _).mono ?_; rintro e w' ⟨rfl, rfl⟩)
    exact bodyPost_ret (v := .tuple #[.bool (sgb b), .int .u64 (f + 4503599627370496), .int .i64 (p - 1 + -1074), .int .i64 0]) (by simp [results, Tryz.results54, go_sem]) rfl ⟨by unfold splitV; rw [if_neg (by have := R.out; omega), R.out.2.1, R.out.2.2.1], rfl⟩
theorem abs_any (b : Nat) (hb : b < 18446744073709551616) (w : World) :
    Calls Tryz.prog 65 #[.float .f64 b] w fun e w' => e = .returned (.float .f64 (b % 9223372036854775808)) ∧ w = w' := by
  have h1 := andNot_sg b hb
  obtain ⟨c, hc⟩ : ∃ c, c = b % 9223372036854775808 := ⟨_, rfl⟩
  rw [← hc] at h1
  have HC := Lib.hid hc
  clear hc
  go_enter Tryz.func65, Tryz.ntmps65
  go_wp2
  go_ret
  exact ⟨rf HC.out, rfl⟩

/-- Is it the infinity? -/
theorem isinf_pos (b : Nat) (hb : b < 18446744073709551616) (w : World) :
    Calls Tryz.prog 53 #[.float .f64 b, .int .i64 1] w fun e w' => e = .returned (.bool (decide (b = INF))) ∧ w = w' := by
  have h1 := inf_gt hb
  go_enter Tryz.func53, Tryz.ntmps53
  go_wp2
  go_ret
  exact ⟨rfl, rfl⟩

@[go_sem] theorem unary_neg_float (k : FloatKind) (b : Nat) : Op.unary .neg (.float k b) = pure (.float k (Op.negFloat k b)) := rfl

theorem negFloat_ng (b : Nat) (hb : b < 18446744073709551616) : Op.negFloat .f64 b = ng b := by
  have hx : b ^^^ 9223372036854775808 = ng b := by
    unfold ng; simp only [SG]
    by_cases h : 9223372036854775808 ≤ b
    · rw [if_pos h]
      have e : b = (b - 9223372036854775808) ||| 9223372036854775808 := by
        have := Nat.two_pow_add_eq_or_of_lt (i := 63) (b := b - 9223372036854775808) (by omega) 1
        rw [Nat.mul_one, Nat.or_comm] at this
        rw [← this]; omega
      apply Nat.eq_of_testBit_eq
      intro i
      rw [Nat.testBit_xor]
      have t1 : Nat.testBit 9223372036854775808 i = decide (63 = i) := @Nat.testBit_two_pow 63 i
      rw [t1]
      by_cases hi : 63 = i
      · subst hi
        have t2 : Nat.testBit b 63 = true := by rw [e, Nat.testBit_or, t1]; simp
        have t3 : Nat.testBit (b - 9223372036854775808) 63 = false := Nat.testBit_lt_two_pow (by omega)
        rw [t2, t3]; rfl
      · conv => lhs; rw [e]
        rw [Nat.testBit_or, t1]
        simp [hi]
    · rw [if_neg h]
      have := Nat.two_pow_add_eq_or_of_lt (i := 63) (b := b) (by omega) 1
      rw [Nat.mul_one] at this
      have e : b + 9223372036854775808 = 9223372036854775808 ||| b := by rw [← this]; omega
      rw [e]
      apply Nat.eq_of_testBit_eq
      intro i
      rw [Nat.testBit_xor, Nat.testBit_or]
      have t1 : Nat.testBit 9223372036854775808 i = decide (63 = i) := @Nat.testBit_two_pow 63 i
      rw [t1]
      by_cases hi : 63 = i
      · subst hi
        have t3 : Nat.testBit b 63 = false := Nat.testBit_lt_two_pow (by omega)
        rw [t3]; rfl
      · simp [hi]
  exact hx

theorem isinf_neg (b : Nat) (hb : b < 18446744073709551616) (w : World) :
    Calls Tryz.prog 53 #[.float .f64 b, .int .i64 (-1)] w fun e w' => e = .returned (.bool (decide (ng b = INF))) ∧ w = w' := by
  have h1 := inf_gt (ng_lt hb)
  have h2 := negFloat_ng b hb
  go_enter Tryz.func53, Tryz.ntmps53
  go_wp2
  go_ret
  exact ⟨rfl, rfl⟩

theorem or_sg (m : Nat) (h : m < 9223372036854775808) : bits .or .u64 (m : Int) 9223372036854775808 = ((m + 9223372036854775808 : Nat) : Int) := by
  have h1 : (BitVec.ofInt 64 (m : Int)).toNat = m := by
    rw [BitVec.ofInt_natCast, BitVec.toNat_ofNat]; exact Nat.mod_eq_of_lt (by omega)
  have h2 : (BitVec.ofInt 64 (9223372036854775808 : Int)).toNat = 9223372036854775808 := by decide
  show IntKind.u64.wrap ((BitVec.ofInt 64 (m : Int) ||| BitVec.ofInt 64 (9223372036854775808 : Int)).toNat : Int) = _
  rw [BitVec.toNat_or, h1, h2, IntKind.wrap_u64]
  have h3 := Nat.two_pow_add_eq_or_of_lt (i := 63) (b := m) (by omega) 1
  rw [Nat.mul_one, Nat.or_comm] at h3
  have h4 : m ||| 9223372036854775808 = m + 9223372036854775808 := by
    have : (2 : Nat) ^ 63 = 9223372036854775808 := by decide
    rw [this] at h3; omega
  rw [h4]; omega

theorem or_0 (m : Nat) (h : m < 18446744073709551616) : bits .or .u64 (m : Int) 0 = (m : Int) := by
  have h1 : (BitVec.ofInt 64 (m : Int)).toNat = m := by
    rw [BitVec.ofInt_natCast, BitVec.toNat_ofNat]; exact Nat.mod_eq_of_lt (by omega)
  show IntKind.u64.wrap ((BitVec.ofInt 64 (m : Int) ||| BitVec.ofInt 64 (0 : Int)).toNat : Int) = _
  rw [BitVec.toNat_or, h1, IntKind.wrap_u64]
  have : (BitVec.ofInt 64 (0 : Int)).toNat = 0 := by decide
  rw [this, Nat.or_zero]; omega

theorem and_sg (m : Nat) (h : m < 18446744073709551616) : bits .and .u64 (m : Int) 9223372036854775808 = if 9223372036854775808 ≤ m then 9223372036854775808 else 0 := by
  have h1 : (BitVec.ofInt 64 (m : Int)).toNat = m := by
    rw [BitVec.ofInt_natCast, BitVec.toNat_ofNat]; exact Nat.mod_eq_of_lt (by omega)
  have h2 : (BitVec.ofInt 64 (9223372036854775808 : Int)).toNat = 9223372036854775808 := by decide
  show IntKind.u64.wrap ((BitVec.ofInt 64 (m : Int) &&& BitVec.ofInt 64 (9223372036854775808 : Int)).toNat : Int) = _
  rw [BitVec.toNat_and, h1, h2, IntKind.wrap_u64]
  have h3 : m &&& 9223372036854775808 = if 9223372036854775808 ≤ m then 9223372036854775808 else 0 := by
    apply Nat.eq_of_testBit_eq
    intro i
    rw [Nat.testBit_and]
    have t1 : Nat.testBit 9223372036854775808 i = decide (63 = i) := @Nat.testBit_two_pow 63 i
    rw [t1]
    by_cases hi : 63 = i
    · subst hi
      by_cases h4 : 9223372036854775808 ≤ m
      · rw [if_pos h4]
        have : Nat.testBit m 63 = true := by rw [Nat.testBit_eq_decide_div_mod_eq]; simp; omega
        rw [this, t1]; rfl
      · rw [if_neg h4]
        have : Nat.testBit m 63 = false := Nat.testBit_lt_two_pow (by omega)
        rw [this]; simp
    · split
      · rw [t1]; simp [hi]
      · simp [hi]
  rw [h3]; split <;> simp

theorem copysign_any (x b : Nat) (hx : x < 9223372036854775808) (hb : b < 18446744073709551616) (w : World) :
    Calls Tryz.prog 101 #[.float .f64 x, .float .f64 b] w fun e w' => e = .returned (.float .f64 (x + sgw b)) ∧ w = w' := by
  have h1 := andNot_sg x (by omega)
  have h2 := and_sg b hb
  rw [Nat.mod_eq_of_lt hx] at h1
  by_cases h : 9223372036854775808 ≤ b
  · rw [if_pos h] at h2
    have h3 := or_sg x hx
    have hs : sgw b = SG := by unfold sgw; simp only [SG]; rw [if_pos h]
    rw [hs]
    go_enter Tryz.func101, Tryz.ntmps101
    go_wp2
    go_ret
    exact ⟨rfl, rfl⟩
  · rw [if_neg h] at h2
    have h3 := or_0 x (by omega)
    have hs : sgw b = 0 := by unfold sgw; simp only [SG]; rw [if_neg h]
    rw [hs]
    go_enter Tryz.func101, Tryz.ntmps101
    go_wp2
    go_ret
    exact ⟨rfl, rfl⟩

theorem signed_any (n : Bool) (m : Int) (h0 : 0 ≤ m) (hb : m < 9223372036854775808) (w : World) :
    Calls Tryz.prog 95 #[.bool n, .int .u64 m] w fun e w' => e = .returned (.float .f64 (wd n m.toNat)) ∧ w = w' := by
  obtain ⟨m, rfl⟩ := Int.eq_ofNat_of_zero_le h0
  have h1 := or_sg m (by omega)
  cases n
  all_goals
    go_enter Tryz.func95, Tryz.ntmps95
    go_wp2
    go_ret
    exact ⟨rf (by unfold wd; simp [SG]; try omega), rfl⟩

theorem round_any (m : Nat) (hm : m < 18446744073709551616) (s : Int) (h1 : 1 ≤ s) (w : World) :
    Calls Tryz.prog 97 #[.int .u64 m, .int .i64 s] w fun e w' => e = .returned (.int .u64 (rnd m s.toNat)) ∧ w = w' := by
  obtain ⟨n, rfl⟩ := Int.eq_ofNat_of_zero_le (show 0 ≤ s by omega)
  rw [Int.toNat_natCast]
  by_cases h2 : n ≤ 64
  · obtain ⟨h, t, k, r, q, a1, a2, a3, a4, a5, a6, H⟩ := round_names m n hm (by omega) h2
    rcases round_ways (by omega) H.out.1 H.out.2.1 H.out.2.2 with ⟨g0, R⟩ | ⟨g0, g1, g2, R⟩ | ⟨g0, g1, g2, R⟩ | ⟨g0, g1, R⟩
    all_goals
      go_enter Tryz.func97, Tryz.ntmps97
      go_wp2
      go_ret
      exact ⟨ri R.out, rfl⟩
  · have e := rnd_great hm (s := n) (by omega)
    have g0 : decide ((64 : Int) < n) = true := dt (by omega)
    go_enter Tryz.func97, Tryz.ntmps97
    go_wp2
    go_ret
    exact ⟨ri (by rw [e]; rfl), rfl⟩

theorem len_any (x : Int) (w : World) (h0 : 0 ≤ x) (h1 : x ≤ 18446744073709551615) :
    Calls Tryz.prog 96 #[.int .u64 x] w fun e w' => e = .returned (.int .i64 (Lib.bitLen x.toNat)) ∧ w = w' :=
  (Tryz.bits_Len64 x w h0 h1).mono fun _ _ ⟨a, b⟩ => ⟨a, b.symm⟩

set_option maxRecDepth 100000 in
theorem join_any (n : Bool) (m : Int) (e : Int) (m0 : 0 ≤ m) (m1 : m < 18446744073709551616) (w : World) :
    Calls Tryz.prog 76 #[.bool n, .int .u64 m, .int .i64 e] w fun e' w' => e' = .returned (.float .f64 (wd n (joinN m.toNat e))) ∧ w = w' := by
  obtain ⟨m, rfl⟩ := Int.eq_ofNat_of_zero_le m0
  rw [Int.toNat_natCast]
  have gm : m < 18446744073709551616 := by omega
  rcases join_ways m e with ⟨g0, R⟩ | ⟨g0, g1, R⟩ | ⟨g0, g1, g2, R⟩ | ⟨g0, g1, g2, H⟩
  · go_enter Tryz.func76, Tryz.ntmps76
    go_wp2_with (go_at_call 95; refine (signed_any _ _ (by omega) (by omega) _).mono ?_; rintro e w' ⟨rfl, rfl⟩)
    go_ret
    exact ⟨rf (by rw [← R.out]), rfl⟩
  · go_enter Tryz.func76, Tryz.ntmps76
    go_wp2_with (go_at_call 95; refine (signed_any _ _ (by omega) (by omega) _).mono ?_; rintro e w' ⟨rfl, rfl⟩)
    go_ret
    exact ⟨rf (by rw [← R.out]), rfl⟩
  · go_enter Tryz.func76, Tryz.ntmps76
    go_wp2_with (go_at_call 95; refine (signed_any _ _ (by omega) (by omega) _).mono ?_; rintro e w' ⟨rfl, rfl⟩)
    go_ret
    exact ⟨rf (by rw [← R.out]), rfl⟩
  · obtain ⟨h0, e1, e2⟩ := H.out
    obtain ⟨k, K, L, hk, k1, hmx, hL1, hL2, hK, HH, hcs⟩ := join_names gm h0 e1 e2
    rcases join_ends h0 e1 e2 HH.out.1 HH.out.2 hL1 hL2 hK with ⟨hon, R⟩ | ⟨r, hon, hmn, hr, R⟩
    all_goals
      rcases hcs with ⟨hc, hc1, hc2, hs⟩ | ⟨hc, hc1, hs⟩
      all_goals
        go_enter Tryz.func76, Tryz.ntmps76
        go_wp2_with (first | (go_at_call 96; refine (len_any _ _ (by omega) (by omega)).mono ?_; rintro e w' ⟨rfl, rfl⟩) | (go_at_call 95; refine (signed_any _ _ (by omega) (by omega) _).mono ?_; rintro e w' ⟨rfl, rfl⟩) | (go_at_call 97; refine (round_any _ gm _ (by omega) _).mono ?_; rintro e w' ⟨rfl, rfl⟩))
        go_ret
        exact ⟨rf (by rw [R.out]), rfl⟩
end Go.Proofs.YtnghppgpdeghfaaGreatDoor
namespace Go.Proofs.YtnghppgpdeghfaaGreatDoor.Tx
open Go.Proofs.YtnghppgpdeghfaaGreatDoor.Fl Go.Proofs.YtnghppgpdeghfaaGreatDoor.Pt

/-- A hexadecimal digit. -/
def hc (d : Nat) : UInt8 := UInt8.ofNat (if d < 10 then 48 + d else 87 + d)
def hexD (u : Nat) : List UInt8 := if _h : u < 16 then [hc u] else hexD (u / 16) ++ [hc (u % 16)]
  termination_by u
  decreasing_by omega
def isH (c : UInt8) : Bool := (decide (48 ≤ c.toNat) && decide (c.toNat ≤ 57)) || (decide (97 ≤ c.toNat) && decide (c.toNat ≤ 102))
def isD (c : UInt8) : Bool := decide (48 ≤ c.toNat) && decide (c.toNat ≤ 57)
def hv (c : UInt8) : Nat := if 97 ≤ c.toNat then c.toNat - 87 else c.toNat - 48
def hexV (a : Nat) : List UInt8 → Nat
  | [] => a
  | c :: l => hexV (16 * a + hv c) l
def decV (a : Nat) : List UInt8 → Nat
  | [] => a
  | c :: l => decV (10 * a + (c.toNat - 48)) l
theorem hc_nat {d : Nat} (h : d < 16) : (hc d).toNat = if d < 10 then 48 + d else 87 + d := by
  unfold hc
  rw [UInt8.toNat_ofNat']
  split <;> omega
theorem isH_hc {d : Nat} (h : d < 16) : isH (hc d) = true := by
  unfold isH
  rw [hc_nat h]
  split <;> simp <;> omega
theorem hv_hc {d : Nat} (h : d < 16) : hv (hc d) = d := by
  unfold hv
  rw [hc_nat h]
  split <;> split <;> omega
theorem hv_lt {c : UInt8} (h : isH c = true) : hv c < 16 := by
  unfold isH at h
  unfold hv
  simp at h
  split <;> omega
theorem hexV_snoc (l : List UInt8) (c : UInt8) : ∀ a, hexV a (l ++ [c]) = 16 * hexV a l + hv c := by
  induction l with
  | nil => intro a; rfl
  | cons d l ih => intro a; exact ih _
theorem decV_snoc (l : List UInt8) (c : UInt8) : ∀ a, decV a (l ++ [c]) = 10 * decV a l + (c.toNat - 48) := by
  induction l with
  | nil => intro a; rfl
  | cons d l ih => intro a; exact ih _
theorem hexD_small {u : Nat} (h : u < 16) : hexD u = [hc u] := by rw [hexD, dif_pos h]
theorem hexD_big {u : Nat} (h : ¬ u < 16) : hexD u = hexD (u / 16) ++ [hc (u % 16)] := by rw [hexD, dif_neg h]
theorem hexV_hexD (u : Nat) : hexV 0 (hexD u) = u := by
  induction u using Nat.strongRecOn with
  | _ u ih =>
    by_cases h : u < 16
    · rw [hexD_small h]
      show 16 * 0 + hv (hc u) = u
      rw [hv_hc h]; omega
    · rw [hexD_big h, hexV_snoc, ih _ (by omega), hv_hc (by omega)]; omega
theorem hexD_isH (u : Nat) : ∀ c ∈ hexD u, isH c = true := by
  induction u using Nat.strongRecOn with
  | _ u ih =>
    intro c hc'
    by_cases h : u < 16
    · rw [hexD_small h] at hc'
      simp at hc'
      rw [hc']; exact isH_hc h
    · rw [hexD_big h] at hc'
      simp at hc'
      rcases hc' with h1 | h1
      · exact ih _ (by omega) c h1
      · rw [h1]; exact isH_hc (by omega)
theorem hexD_ne (u : Nat) : hexD u ≠ [] := by
  by_cases h : u < 16
  · rw [hexD_small h]; simp
  · rw [hexD_big h]; simp
theorem hexD_len : ∀ (k u : Nat), u < 16 ^ (k + 1) → (hexD u).length ≤ k + 1
  | 0, u, h => by rw [hexD_small (by simpa using h)]; simp
  | k + 1, u, h => by
    by_cases h1 : u < 16
    · rw [hexD_small h1]; simp
    · rw [hexD_big h1, List.length_append]
      have := hexD_len k (u / 16) (by rw [Nat.div_lt_iff_lt_mul (by omega)]; rw [Nat.pow_succ] at h; exact h)
      simp; omega
theorem dd_small {u : Nat} (h : u < 10) : Lib.decDigits u = [UInt8.ofNat (48 + u)] := by rw [Lib.decDigits, dif_pos h]
theorem dd_big {u : Nat} (h : ¬ u < 10) : Lib.decDigits u = Lib.decDigits (u / 10) ++ [UInt8.ofNat (48 + u % 10)] := by rw [Lib.decDigits, dif_neg h]
theorem d_nat {d : Nat} (h : d < 10) : (UInt8.ofNat (48 + d)).toNat = 48 + d := by rw [UInt8.toNat_ofNat']; omega
theorem decV_dd (u : Nat) : decV 0 (Lib.decDigits u) = u := by
  induction u using Nat.strongRecOn with
  | _ u ih =>
    by_cases h : u < 10
    · rw [dd_small h]
      show 10 * 0 + ((UInt8.ofNat (48 + u)).toNat - 48) = u
      rw [d_nat h]; omega
    · rw [dd_big h, decV_snoc, ih _ (by omega), d_nat (by omega)]; omega
theorem dd_isD (u : Nat) : ∀ c ∈ Lib.decDigits u, isD c = true := by
  induction u using Nat.strongRecOn with
  | _ u ih =>
    intro c hc'
    by_cases h : u < 10
    · rw [dd_small h] at hc'
      rw [List.mem_singleton.1 hc']; unfold isD; rw [d_nat h]; simp; omega
    · rw [dd_big h] at hc'
      rcases List.mem_append.1 hc' with h1 | h1
      · exact ih _ (by omega) c h1
      · rw [List.mem_singleton.1 h1]; unfold isD; rw [d_nat (by omega)]; simp; omega
theorem dd_ne (u : Nat) : Lib.decDigits u ≠ [] := by
  by_cases h : u < 10
  · rw [dd_small h]; simp
  · rw [dd_big h]; simp
theorem dd_len : ∀ (k u : Nat), u < 10 ^ (k + 1) → (Lib.decDigits u).length ≤ k + 1
  | 0, u, h => by rw [dd_small (by simpa using h)]; simp
  | k + 1, u, h => by
    by_cases h1 : u < 10
    · rw [dd_small h1]; simp
    · rw [dd_big h1, List.length_append]
      have := dd_len k (u / 10) (by rw [Nat.div_lt_iff_lt_mul (by omega)]; rw [Nat.pow_succ] at h; exact h)
      simp; omega

/-- strconv.ParseUint(s, 16, 64) behind its tests. -/
def pu16 (acc : Nat) : List UInt8 → Lib.NumEnd Nat
  | [] => .ok acc
  | c :: r => if isH c then (if 1152921504606846976 ≤ acc then .range else pu16 (acc * 16 + hv c) r) else .syntax
theorem hexV_ge : ∀ (l : List UInt8) (a : Nat), a ≤ hexV a l
  | [], a => Nat.le_refl _
  | c :: l, a => by
    have := hexV_ge l (16 * a + hv c)
    show a ≤ hexV (16 * a + hv c) l
    omega
theorem pu16_ok : ∀ (l : List UInt8) (a : Nat), (∀ c ∈ l, isH c = true) → hexV a l < 18446744073709551616 → pu16 a l = .ok (hexV a l)
  | [], a, _, _ => rfl
  | c :: l, a, hl, h => by
    have h1 := hexV_ge l (16 * a + hv c)
    have h2 : hexV a (c :: l) = hexV (16 * a + hv c) l := rfl
    rw [pu16, if_pos (hl c (by simp)), if_neg (by omega), show a * 16 + hv c = 16 * a + hv c by omega]
    exact pu16_ok l _ (fun d hd => hl d (by simp [hd])) (by omega)
theorem pu16_eq : ∀ (l : List UInt8) (a u : Nat), pu16 a l = .ok u → u = hexV a l
  | [], a, u, h => by simp only [pu16] at h; injection h with h; exact h.symm
  | c :: l, a, u, h => by
    rw [pu16] at h
    split at h
    · split at h
      · cases h
      · have := pu16_eq l _ u h
        rw [this, show a * 16 + hv c = 16 * a + hv c by omega]; rfl
    · cases h
theorem pu16_lt : ∀ (l : List UInt8) (a u : Nat), a < 18446744073709551616 → pu16 a l = .ok u → u < 18446744073709551616
  | [], a, u, ha, h => by simp only [pu16] at h; injection h with h; omega
  | c :: l, a, u, ha, h => by
    rw [pu16] at h
    split at h
    · rename_i hc
      split at h
      · cases h
      · have := hv_lt hc
        exact pu16_lt l _ u (by omega) h
    · cases h
theorem pu16_not : ∀ (l : List UInt8) (a : Nat), (∀ c ∈ l, isH c = true) → pu16 a l ≠ .syntax
  | [], a, _ => by simp [pu16]
  | c :: l, a, hl => by
    rw [pu16, if_pos (hl c (by simp))]
    split
    · simp
    · exact pu16_not l _ (fun d hd => hl d (by simp [hd]))

/-- A text of digits is parsed as its value. -/
theorem decV_ge : ∀ (l : List UInt8) (a : Nat), a ≤ decV a l
  | [], a => Nat.le_refl _
  | c :: l, a => by
    have := decV_ge l (10 * a + (c.toNat - 48))
    show a ≤ decV (10 * a + (c.toNat - 48)) l
    omega
theorem pu10_ok : ∀ (l : List UInt8) (a : Nat), (∀ c ∈ l, isD c = true) → decV a l < 18446744073709551616 → Lib.parseUint10 a l = .ok (decV a l)
  | [], a, _, _ => rfl
  | c :: l, a, hl, h => by
    have h1 := decV_ge l (10 * a + (c.toNat - 48))
    have h2 : decV a (c :: l) = decV (10 * a + (c.toNat - 48)) l := rfl
    have h3 := hl c (by simp)
    unfold isD at h3
    simp at h3
    rw [Lib.parseUint10, if_pos h3, if_neg (by omega), if_neg (by omega), show a * 10 + (c.toNat - 48) = 10 * a + (c.toNat - 48) by omega]
    exact pu10_ok l _ (fun d hd => hl d (by simp [hd])) (by omega)
end Go.Proofs.YtnghppgpdeghfaaGreatDoor.Tx
namespace Go.Proofs.YtnghppgpdeghfaaGreatDoor.Tx
open Go.Proofs.YtnghppgpdeghfaaGreatDoor.Fl Go.Proofs.YtnghppgpdeghfaaGreatDoor.Pt

theorem RN_zero (p : Int) : RN 0 p = 0 := by unfold RN; rw [if_pos rfl]
theorem atoi_dd {u : Nat} (h : u < 9223372036854775808) : Lib.atoiAll (Lib.decDigits u) = .ok (u : Int) := by
  have hp : Lib.parseMag (Lib.decDigits u) = .ok u := by
    unfold Lib.parseMag
    rw [if_neg (dd_ne u), pu10_ok _ 0 (dd_isD u) (by rw [decV_dd]; omega), decV_dd]
  cases hl : Lib.decDigits u with
  | nil => exact absurd hl (dd_ne u)
  | cons c r =>
    have hc := dd_isD u c (by rw [hl]; simp)
    unfold isD at hc
    simp at hc
    rw [hl] at hp
    rw [Lib.atoiAll_plain c r (by omega) (by omega), hp]
    show (if 9223372036854775808 ≤ u then Lib.NumEnd.range else .ok (u : Int)) = _
    rw [if_neg (by omega)]
theorem atoi_itoa {e : Int} (h1 : -9223372036854775808 < e) (h2 : e < 9223372036854775808) : Lib.atoiAll (Lib.itoa e) = .ok e := by
  unfold Lib.itoa
  split
  · have hp : Lib.parseMag (Lib.decDigits e.natAbs) = .ok e.natAbs := by
      unfold Lib.parseMag
      rw [if_neg (dd_ne _), pu10_ok _ 0 (dd_isD _) (by rw [decV_dd]; omega), decV_dd]
    rw [Lib.atoiAll_minus, hp]
    show (if 9223372036854775808 < e.natAbs then Lib.NumEnd.range else .ok (-(e.natAbs : Int))) = _
    rw [if_neg (by omega)]
    congr 1
    omega
  · rw [atoi_dd (by omega)]
    congr 1
    omega

def tz (m : Nat) : Nat := if _h : m % 2 = 1 ∨ m = 0 then 0 else tz (m / 2) + 1
  termination_by m
  decreasing_by omega
theorem tz_spec (m : Nat) (h0 : m ≠ 0) : m / 2 ^ tz m * 2 ^ tz m = m ∧ m / 2 ^ tz m % 2 = 1 := by
  induction m using Nat.strongRecOn with
  | _ m ih =>
    by_cases h : m % 2 = 1 ∨ m = 0
    · rw [tz, dif_pos h]; simp; omega
    · obtain ⟨i1, i2⟩ := ih (m / 2) (by omega) (by omega)
      rw [tz, dif_neg h]
      have e : m / 2 ^ (tz (m / 2) + 1) = m / 2 / 2 ^ tz (m / 2) := by rw [Nat.pow_succ, Nat.mul_comm, Nat.div_div_eq_div_mul]
      rw [e]
      refine ⟨?_, i2⟩
      rw [Nat.pow_succ, ← Nat.mul_assoc, i1]
      omega
/-- A float's odd whole number and its power of two. -/
def cm (b : Nat) : Nat := if spm b = 0 then 0 else spm b / 2 ^ tz (spm b)
def ce (b : Nat) : Int := if spm b = 0 then 0 else spe b + tz (spm b)
/-- A float's text. -/
def fl (b : Nat) : List UInt8 :=
  if nan b then [110, 97, 110] else if b % SG = INF then (if SG ≤ b then [45, 105, 110, 102] else [105, 110, 102])
  else (if SG ≤ b then [45] else []) ++ ([48, 120] ++ (hexD (cm b) ++ 112 :: Lib.itoa (ce b)))
theorem fl_fin {b : Nat} (h : fin b) : fl b = (if SG ≤ b then [45] else []) ++ ([48, 120] ++ (hexD (cm b) ++ 112 :: Lib.itoa (ce b))) := by
  unfold fl
  have h1 : nan b = false := by unfold nan; simp; exact Nat.le_of_lt h.2
  rw [h1, if_neg (by simp), if_neg (by have := h.2; omega)]
theorem spm_mg {b : Nat} : spm b = mg (b % SG) := by
  unfold spm mg
  split
  · rfl
  · rw [show b % SG % ON = b % ON by simp only [SG, ON]; omega]; omega
theorem spe_sh {b : Nat} : spe b = (sh (b % SG) : Int) - 1074 := by
  unfold spe sh
  split
  · rw [Nat.div_eq_of_lt (by assumption)]; rfl
  · rename_i h
    have : 1 ≤ b % SG / ON := by rw [Nat.le_div_iff_mul_le (by simp only [ON]; omega)]; omega
    omega
theorem mg_lt (r : Nat) : mg r < 9007199254740992 := by
  unfold mg
  simp only [ON]
  split <;> omega
theorem parse {b : Nat} (h : fin b) : cm b < 9007199254740992 ∧ -1074 ≤ ce b ∧ ce b ≤ 1023 ∧ RN (cm b) (ce b + 1074) = b % SG ∧ V (b % SG) = cm b * 2 ^ (ce b + 1074).toNat := by
  unfold cm ce
  by_cases h0 : spm b = 0
  · rw [if_pos h0, if_pos h0]
    have hr : b % SG = 0 := by
      rw [spm_mg] at h0
      unfold mg at h0
      simp only [ON] at h0
      split at h0 <;> omega
    refine ⟨by omega, by omega, by omega, ?_, ?_⟩
    · rw [RN_zero, hr]
    · rw [hr, V_zero]; exact (Nat.zero_mul _).symm
  · rw [if_neg h0, if_neg h0]
    obtain ⟨t1, t2⟩ := tz_spec (spm b) h0
    generalize hk : tz (spm b) = k at *
    generalize hc : spm b / 2 ^ k = c at *
    have hm := mg_lt (b % SG)
    rw [← spm_mg] at hm
    have hcs : c ≤ spm b := by rw [← hc]; exact Nat.div_le_self _ _
    have hV : V (b % SG) = c * 2 ^ (k + sh (b % SG)) := by
      show mg (b % SG) * 2 ^ sh (b % SG) = _
      rw [← spm_mg, ← t1, Nat.pow_add, Nat.mul_assoc]
    have hlt := V_lt h.2
    rw [V_INF, hV] at hlt
    have hex : k + sh (b % SG) < TOP := by
      refine (Nat.pow_lt_pow_iff_right (a := 2) (by omega)).1 (Nat.lt_of_le_of_lt ?_ hlt)
      exact Nat.le_mul_of_pos_left _ (by omega)
    have hT : TOP = 2098 := rfl
    have hs := spe_sh (b := b)
    have he : spe b + (k : Int) + 1074 = ((k + sh (b % SG) : Nat) : Int) := by omega
    refine ⟨by omega, by omega, by omega, ?_, ?_⟩
    · rw [he]
      have h1 := RN_scale c (k + sh (b % SG)) ((k + sh (b % SG) : Nat) : Int)
      rw [Int.sub_self, ← hV, RN_V _ (Nat.le_of_lt h.2)] at h1
      exact h1.symm
    · rw [he, hV]; rfl

theorem split_at (c : UInt8) : ∀ (A A' B B' : List UInt8), c ∉ A → c ∉ A' → A ++ c :: B = A' ++ c :: B' → A = A' ∧ B = B'
  | [], [], B, B', _, _, h => ⟨rfl, by simpa using h⟩
  | [], a :: A', B, B', _, h2, h => by simp at h; exact absurd (by simp [h.1]) h2
  | a :: A, [], B, B', h1, _, h => by simp at h; exact absurd (by simp [h.1]) h1
  | a :: A, a' :: A', B, B', h1, h2, h => by
    simp at h h1 h2
    obtain ⟨e1, e2⟩ := split_at c A A' B B' h1.2 h2.2 h.2
    exact ⟨by rw [h.1, e1], e2⟩
theorem no_p {M : List UInt8} (h : ∀ c ∈ M, isH c = true) : (112 : UInt8) ∉ M := fun hm => by
  have := h _ hm
  simp [isH] at this
/-- A text of a number's form. -/
def tok (neg : Bool) (M T : List UInt8) : List UInt8 := (if neg then [45] else []) ++ ([48, 120] ++ (M ++ 112 :: T))
theorem tok_fl {neg : Bool} {M T : List UInt8} {y : Nat} (hM : ∀ c ∈ M, isH c = true) (h : fl y = tok neg M T) (hy : y < 18446744073709551616) : fin y ∧ neg = decide (SG ≤ y) ∧ M = hexD (cm y) ∧ T = Lib.itoa (ce y) := by
  have hf : fin y := by
    refine ⟨hy, Classical.byContradiction fun hn => ?_⟩
    unfold fl tok at h
    by_cases h1 : nan y = true
    · rw [if_pos h1] at h; cases neg <;> simp at h
    · rw [if_neg h1] at h
      have h2 : y % SG = INF := by unfold nan at h1; simp at h1; omega
      rw [if_pos h2] at h
      by_cases h3 : SG ≤ y
      · rw [if_pos h3] at h; cases neg <;> simp at h
      · rw [if_neg h3] at h; cases neg <;> simp at h
  refine ⟨hf, ?_⟩
  rw [fl_fin hf] at h
  unfold tok at h
  have key : ∀ A B A' B' : List UInt8, (∀ c ∈ A, isH c = true) → (∀ c ∈ A', isH c = true) → ([48, 120] ++ (A ++ 112 :: B) : List UInt8) = [48, 120] ++ (A' ++ 112 :: B') → A = A' ∧ B = B' := fun A B A' B' hA hA' e => split_at 112 A A' B B' (no_p hA) (no_p hA') (by simpa using e)
  by_cases h3 : SG ≤ y
  · rw [if_pos h3] at h
    cases neg
    · simp at h
    · obtain ⟨e1, e2⟩ := key _ _ _ _ (hexD_isH _) hM (by simpa using h)
      exact ⟨by simp [h3], e1.symm, e2.symm⟩
  · rw [if_neg h3] at h
    cases neg
    · obtain ⟨e1, e2⟩ := key _ _ _ _ (hexD_isH _) hM (by simpa using h)
      exact ⟨by simp [h3], e1.symm, e2.symm⟩
    · simp at h
theorem wd_self' {b : Nat} (hb : b < 18446744073709551616) : wd (decide (SG ≤ b)) (b % SG) = b := by
  unfold wd
  simp only [SG]
  by_cases h : 9223372036854775808 ≤ b
  · simp [h]; omega
  · simp [h]; omega
/-- What is right about a text of a number's form: it is the text of the number that it spells. -/
theorem right_join {neg : Bool} {M T : List UInt8} {n : Nat} {k : Int} (hM : ∀ c ∈ M, isH c = true) (hn : Tx.pu16 0 M = .ok n) (hk : Lib.atoiAll T = .ok k) (hx : ∃ y, y < 18446744073709551616 ∧ fl y = tok neg M T) : fl (wd neg (joinN n k)) = tok neg M T := by
  obtain ⟨y, hy, h⟩ := hx
  obtain ⟨hf, e1, e2, e3⟩ := tok_fl hM h hy
  obtain ⟨p1, p2, p3, p4, _⟩ := parse hf
  have e4 : n = cm y := by rw [pu16_eq _ _ _ hn, e2, hexV_hexD]
  have e5 : k = ce y := by
    rw [e3, atoi_itoa (by omega) (by omega)] at hk
    injection hk with hk
    exact hk.symm
  rw [e4, e5, joinN_RN (by omega), p4, e1, wd_self' hy, ← e1]
  exact h
theorem right_none {neg : Bool} {M T : List UInt8} (hM : ∀ c ∈ M, isH c = true) (hx : ∃ y, y < 18446744073709551616 ∧ fl y = tok neg M T) : ∃ n k, Tx.pu16 0 M = .ok n ∧ Lib.atoiAll T = .ok k ∧ -2000 ≤ k ∧ k ≤ 2000 ∧ M.length ≤ 14 ∧ n < 9007199254740992 := by
  obtain ⟨y, hy, h⟩ := hx
  obtain ⟨hf, e1, e2, e3⟩ := tok_fl hM h hy
  obtain ⟨p1, p2, p3, p4, _⟩ := parse hf
  refine ⟨cm y, ce y, ?_, ?_, by omega, by omega, ?_, p1⟩
  · rw [e2, pu16_ok _ 0 (hexD_isH _) (by rw [hexV_hexD]; omega), hexV_hexD]
  · rw [e3, atoi_itoa (by omega) (by omega)]
  · rw [e2]; exact hexD_len 13 _ (by omega)
end Go.Proofs.YtnghppgpdeghfaaGreatDoor.Tx
namespace Go.Proofs.YtnghppgpdeghfaaGreatDoor.Tx
open Go.Proofs.YtnghppgpdeghfaaGreatDoor.Fl Go.Proofs.YtnghppgpdeghfaaGreatDoor.Pt

/-- X stands in L from a to b. -/
def Is (L : List UInt8) (a : Nat) (X : List UInt8) (b : Nat) : Prop := b = a + X.length ∧ L.drop a = X ++ L.drop b
theorem Is.nil (L : List UInt8) (a : Nat) : Is L a [] a := ⟨rfl, rfl⟩
theorem Is.one {L : List UInt8} {a : Nat} {c : UInt8} (h : L[a]? = some c) : Is L a [c] (a + 1) := by
  refine ⟨rfl, ?_⟩
  obtain ⟨hl, he⟩ := List.getElem?_eq_some_iff.1 h
  rw [List.drop_eq_getElem_cons hl, he]; rfl
theorem Is.trans {L X Y : List UInt8} {a b c : Nat} (h : Is L a X b) (k : Is L b Y c) : Is L a (X ++ Y) c :=
  ⟨by rw [k.1, h.1, List.length_append]; omega, by rw [h.2, k.2, List.append_assoc]⟩
theorem Is.piece {L X : List UInt8} {a b : Nat} (h : Is L a X b) : (L.drop a).take (b - a) = X := by
  rw [h.2, h.1, Nat.add_sub_cancel_left, List.take_left]
theorem Is.le {L X : List UInt8} {a b : Nat} (h : Is L a X b) (ha : a ≤ L.length) : b ≤ L.length := by
  have := congrArg List.length h.2
  rw [List.length_append, List.length_drop, List.length_drop] at this
  have := h.1
  omega
theorem Is.whole {L X : List UInt8} {b : Nat} (h : Is L 0 X b) (hb : L.length ≤ b) : L = X := by
  have h1 := h.2
  rw [List.drop_zero, List.drop_eq_nil_of_le hb, List.append_nil] at h1
  exact h1

/-- These bytes, one by one. -/
def tk (L : List UInt8) : List UInt8 → Nat → Bool × Nat
  | [], a => (true, a)
  | c :: t, a => if L[a]? = some c then tk L t (a + 1) else (false, a)
theorem tk_is (L : List UInt8) : ∀ (t : List UInt8) (a b : Nat), tk L t a = (true, b) → Is L a t b
  | [], a, b, h => by simp only [tk] at h; injection h with _ h; subst h; exact Is.nil _ _
  | c :: t, a, b, h => by
    rw [tk] at h
    split at h
    · rename_i hc; exact (Is.one hc).trans (tk_is L t _ b h)
    · injection h with h; cases h
/-- How far the bytes are such. -/
def rn (p : UInt8 → Bool) (L : List UInt8) (a : Nat) : Nat := a + ((L.drop a).takeWhile p).length
theorem takeWhile_all (p : UInt8 → Bool) : ∀ (l : List UInt8), ∀ c ∈ l.takeWhile p, p c = true
  | [], c, h => by simp at h
  | d :: l, c, h => by
    rw [List.takeWhile_cons] at h
    split at h
    · rename_i hd
      rcases List.mem_cons.1 h with rfl | h
      · exact hd
      · exact takeWhile_all p l c h
    · simp at h
theorem drop_takeWhile (p : UInt8 → Bool) : ∀ (l : List UInt8), l = l.takeWhile p ++ l.drop (l.takeWhile p).length
  | [] => rfl
  | d :: l => by
    rw [List.takeWhile_cons]
    split
    · simp only [List.length_cons, List.drop_succ_cons, List.cons_append]; rw [← drop_takeWhile p l]
    · rfl
theorem rn_is (p : UInt8 → Bool) (L : List UInt8) (a : Nat) : Is L a ((L.drop a).takeWhile p) (rn p L a) := by
  refine ⟨rfl, ?_⟩
  unfold rn
  rw [← List.drop_drop]
  exact drop_takeWhile p _
theorem rn_step {p : UInt8 → Bool} {L : List UInt8} {a : Nat} {c : UInt8} (h : L[a]? = some c) (hc : p c = true) : rn p L a = rn p L (a + 1) := by
  obtain ⟨hl, he⟩ := List.getElem?_eq_some_iff.1 h
  unfold rn
  rw [List.drop_eq_getElem_cons hl, he, List.takeWhile_cons, if_pos hc, List.length_cons]
  omega
theorem rn_stop {p : UInt8 → Bool} {L : List UInt8} {a : Nat} (h : ∀ c, L[a]? = some c → p c = false) : rn p L a = a := by
  unfold rn
  by_cases hl : a < L.length
  · have := h _ (List.getElem?_eq_getElem hl)
    rw [List.drop_eq_getElem_cons hl, List.takeWhile_cons, if_neg (by simp [this])]; rfl
  · rw [List.drop_eq_nil_of_le (by omega)]; rfl
/-- Digits: one at least; a 0 in front stands alone. -/
def dg (p : UInt8 → Bool) (L : List UInt8) (a : Nat) : Bool × Nat :=
  match L[a]? with
  | none => (false, a)
  | some c => if p c then (if c = 48 then (true, a + 1) else (true, rn p L a)) else (false, a)
theorem dg_is {p : UInt8 → Bool} {L : List UInt8} {a b : Nat} (h : dg p L a = (true, b)) : ∃ D, Is L a D b ∧ (∀ c ∈ D, p c = true) ∧ D ≠ [] := by
  unfold dg at h
  cases hc : L[a]? with
  | none => rw [hc] at h; injection h with h; cases h
  | some c =>
    rw [hc] at h
    simp only at h
    split at h
    · rename_i hp
      split at h
      · injection h with _ h
        subst h
        exact ⟨[c], Is.one hc, by intro d hd; simp at hd; rw [hd]; exact hp, by simp⟩
      · injection h with _ h
        subst h
        refine ⟨_, rn_is p L a, takeWhile_all p _, ?_⟩
        obtain ⟨hl, he⟩ := List.getElem?_eq_some_iff.1 hc
        rw [List.drop_eq_getElem_cons hl, he, List.takeWhile_cons, if_pos hp]
        simp
    · injection h with h; cases h
def bd (x : Bool × Nat) (f : Nat → Bool × Nat) : Bool × Nat := if x.1 then f x.2 else x
theorem bd_true {x : Bool × Nat} {f : Nat → Bool × Nat} {b : Nat} (h : bd x f = (true, b)) : ∃ c, x = (true, c) ∧ f c = (true, b) := by
  unfold bd at h
  obtain ⟨x1, x2⟩ := x
  cases x1
  · simp at h
  · exact ⟨x2, rfl, by simpa using h⟩
/-- The power's digits, their sign ahead. -/
def pw (L : List UInt8) (a : Nat) : Bool × Nat := if L[a]? = some 45 then (if L[a + 1]? = some 48 then (false, a + 1) else dg isD L (a + 1)) else dg isD L a
def sg (L : List UInt8) (a : Nat) : Bool × Nat := bd (tk L [48, 120] a) fun a => bd (dg isH L a) fun a => bd (tk L [112] a) fun a => pw L a
def sf (L : List UInt8) (a : Nat) : Bool × Nat :=
  if L[a]? = some 110 then tk L [110, 97, 110] a else if L[a]? = some 105 then tk L [105, 110, 102] a
  else if L[a]? = some 45 then (if L[a + 1]? = some 105 then tk L [105, 110, 102] (a + 1) else sg L (a + 1)) else sg L a
theorem pw_is {L : List UInt8} {a b : Nat} (h : pw L a = (true, b)) : ∃ (bel : Bool) (E : List UInt8), Is L a ((if bel then [45] else []) ++ E) b ∧ (∀ c ∈ E, isD c = true) ∧ E ≠ [] := by
  unfold pw at h
  split at h
  · rename_i h0
    split at h
    · injection h with h; cases h
    · obtain ⟨E, e1, e2, e3⟩ := dg_is h
      exact ⟨true, E, (Is.one h0).trans e1, e2, e3⟩
  · obtain ⟨E, e1, e2, e3⟩ := dg_is h
    exact ⟨false, E, e1, e2, e3⟩
theorem sg_is {L : List UInt8} {a b : Nat} (h : sg L a = (true, b)) : ∃ (M : List UInt8) (bel : Bool) (E : List UInt8), Is L a ([48, 120] ++ (M ++ 112 :: ((if bel then [45] else []) ++ E))) b ∧ (∀ c ∈ M, isH c = true) ∧ M ≠ [] ∧ (∀ c ∈ E, isD c = true) ∧ E ≠ [] := by
  unfold sg at h
  obtain ⟨a1, h1, h⟩ := bd_true h
  obtain ⟨a2, h2, h⟩ := bd_true h
  obtain ⟨a3, h3, h⟩ := bd_true h
  obtain ⟨M, m1, m2, m3⟩ := dg_is h2
  obtain ⟨bel, E, e1, e2, e3⟩ := pw_is h
  exact ⟨M, bel, E, (tk_is _ _ _ _ h1).trans (m1.trans ((tk_is _ _ _ _ h3).trans e1)), m2, m3, e2, e3⟩
/-- What a float's scan has seen. -/
theorem sf_is {L : List UInt8} {a b : Nat} (h : sf L a = (true, b)) : Is L a [110, 97, 110] b ∨ Is L a [105, 110, 102] b ∨ Is L a [45, 105, 110, 102] b ∨
    ∃ (neg : Bool) (M : List UInt8) (bel : Bool) (E : List UInt8), Is L a (tok neg M ((if bel then [45] else []) ++ E)) b ∧ (∀ c ∈ M, isH c = true) ∧ M ≠ [] ∧ (∀ c ∈ E, isD c = true) ∧ E ≠ [] := by
  unfold sf at h
  split at h
  · exact .inl (tk_is _ _ _ _ h)
  · split at h
    · exact .inr (.inl (tk_is _ _ _ _ h))
    · split at h
      · rename_i h0
        split at h
        · exact .inr (.inr (.inl ((Is.one h0).trans (tk_is _ _ _ _ h))))
        · obtain ⟨M, bel, E, e1, e2, e3, e4, e5⟩ := sg_is h
          exact .inr (.inr (.inr ⟨true, M, bel, E, (Is.one h0).trans e1, e2, e3, e4, e5⟩))
      · obtain ⟨M, bel, E, e1, e2, e3, e4, e5⟩ := sg_is h
        exact .inr (.inr (.inr ⟨false, M, bel, E, e1, e2, e3, e4, e5⟩))
end Go.Proofs.YtnghppgpdeghfaaGreatDoor.Tx
namespace Go.Proofs.YtnghppgpdeghfaaGreatDoor.Tx
open Go.Proofs.YtnghppgpdeghfaaGreatDoor.Fl Go.Proofs.YtnghppgpdeghfaaGreatDoor.Pt

/-- Is it the text of a float? -/
def Rt (X : List UInt8) : Prop := ∃ y, y < 18446744073709551616 ∧ fl y = X
theorem fl_inj {x y : Nat} (hx : x < 18446744073709551616) (hy : y < 18446744073709551616) (h : fl x = fl y) : eqv x y = true := by
  by_cases fx : fin x
  · have e : fl y = tok (decide (SG ≤ x)) (hexD (cm x)) (Lib.itoa (ce x)) := by
      rw [← h, fl_fin fx]
      unfold tok
      by_cases c : SG ≤ x <;> simp [c]
    obtain ⟨fy, e1, e2, e3⟩ := tok_fl (hexD_isH _) e hy
    obtain ⟨p1, p2, p3, p4, _⟩ := parse fx
    obtain ⟨r1, r2, r3, r4, _⟩ := parse fy
    have m1 : cm x = cm y := by rw [← hexV_hexD (cm x), e2, hexV_hexD]
    have m2 : ce x = ce y := by
      have := congrArg Lib.atoiAll e3
      rw [atoi_itoa (by omega) (by omega), atoi_itoa (by omega) (by omega)] at this
      injection this
    have m3 : x % SG = y % SG := by rw [← p4, ← r4, m1, m2]
    have m4 : x = y := by rw [← wd_self' hx, ← wd_self' hy, m3, e1]
    rw [m4]; exact eqv_refl y
  · by_cases fy : fin y
    · have e : fl x = tok (decide (SG ≤ y)) (hexD (cm y)) (Lib.itoa (ce y)) := by
        rw [h, fl_fin fy]
        unfold tok
        by_cases c : SG ≤ y <;> simp [c]
      exact absurd (tok_fl (hexD_isH _) e hx).1 fx
    · have gx : INF ≤ x % SG := Nat.le_of_not_lt fun c => fx ⟨hx, c⟩
      have gy : INF ≤ y % SG := Nat.le_of_not_lt fun c => fy ⟨hy, c⟩
      unfold fl at h
      have nx : nan x = decide (INF < x % SG) := rfl
      have ny : nan y = decide (INF < y % SG) := rfl
      by_cases h1 : nan x = true
      · by_cases h2 : nan y = true
        · exact eqv_nan h1 h2
        · have h2' : y % SG = INF := by rw [ny] at h2; simp at h2; omega
          rw [if_pos h1, if_neg h2, if_pos h2'] at h
          split at h <;> simp at h
      · have h1' : x % SG = INF := by rw [nx] at h1; simp at h1; omega
        by_cases h2 : nan y = true
        · rw [if_neg h1, if_pos h1', if_pos h2] at h
          split at h <;> simp at h
        · have h2' : y % SG = INF := by rw [ny] at h2; simp at h2; omega
          rw [if_neg h1, if_pos h1', if_neg h2, if_pos h2'] at h
          have : x = y := by
            by_cases c1 : SG ≤ x
            · by_cases c2 : SG ≤ y
              · simp only [SG] at *; omega
              · rw [if_pos c1, if_neg c2] at h; simp at h
            · by_cases c2 : SG ≤ y
              · rw [if_neg c1, if_pos c2] at h; simp at h
              · simp only [SG] at *; omega
          rw [this]; exact eqv_refl y
open Classical in
/-- A float, with the byte e behind it. -/
noncomputable def fo (e : UInt8) (L : List UInt8) (a : Nat) : Bool × Nat :=
  bd (sf L a) fun b => bd (tk L [e] b) fun c => if Rt ((L.drop a).take (b - a)) then (true, c) else (false, a)
noncomputable def nu (L : List UInt8) (a : Nat) : Bool × Nat := bd (tk L [40] a) fun a => bd (fo 44 L a) fun a => fo 41 L a
/-- A number's text. -/
def num (x y : Nat) : List UInt8 := 40 :: (fl x ++ 44 :: (fl y ++ [41]))
/-- A whole text that is a number's. -/
noncomputable def rdS (L : List UInt8) : Bool × Nat := bd (nu L 0) fun b => if b < L.length then (false, b) else (true, b)
theorem fo_true {e : UInt8} {L : List UInt8} {a c : Nat} (h : fo e L a = (true, c)) : ∃ b, sf L a = (true, b) ∧ tk L [e] b = (true, c) ∧ Rt ((L.drop a).take (b - a)) := by
  unfold fo at h
  obtain ⟨b, h1, h⟩ := bd_true h
  obtain ⟨c', h2, h⟩ := bd_true h
  split at h
  · rename_i hr
    injection h with _ h
    subst h
    exact ⟨b, h1, h2, hr⟩
  · injection h with h; cases h
theorem sf_piece {L : List UInt8} {a b : Nat} (h : sf L a = (true, b)) : Is L a ((L.drop a).take (b - a)) b := by
  rcases sf_is h with h | h | h | ⟨neg, M, bel, E, h, _⟩ <;> (rw [h.piece]; exact h)
theorem whole_num {L : List UInt8} {x y c : Nat} (h : Is L 0 (num x y) c) (hc : ¬ c < L.length) : L = num x y := h.whole (by omega)
end Go.Proofs.YtnghppgpdeghfaaGreatDoor.Tx
