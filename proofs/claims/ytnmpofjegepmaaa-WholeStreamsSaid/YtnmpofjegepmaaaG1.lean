/- Contracts of layer 19 (guard): one part, as it is left. -/
import Derived.Test.YtnmpofjegepmaaaE5
namespace Go.Proofs.Ytnmpofjegepmaaa
open Go.RowKit Go.Proofs.Ytnmpofjegepmaaa.Fl Go.Proofs.Ytnmpofjegepmaaa.Pt

theorem or_sg (m : Nat) (h : m < 9223372036854775808) : bits .or .u64 (m : Int) 9223372036854775808 = ((m + 9223372036854775808 : Nat) : Int) := by
  have h1 : (BitVec.ofInt 64 (m : Int)).toNat = m := by
    rw [BitVec.ofInt_natCast, BitVec.toNat_ofNat]; exact Nat.mod_eq_of_lt (by omega)
  have h2 : (BitVec.ofInt 64 (9223372036854775808 : Int)).toNat = 9223372036854775808 := by decide
  show IntKind.u64.wrap ((BitVec.ofInt 64 (m : Int) ||| BitVec.ofInt 64 (9223372036854775808 : Int)).toNat : Int) = _
  rw [BitVec.toNat_or, h1, h2, IntKind.wrap_u64]
  have h3 := Nat.two_pow_add_eq_or_of_lt (i := 63) (b := m) (by omega) 1
  rw [Nat.mul_one, Nat.or_comm] at h3
  have h4 : m ||| 9223372036854775808 = m + 9223372036854775808 := by
    have : (2 : Nat) ^ 63 = 9223372036854775808 := by decide
    rw [this] at h3; omega
  rw [h4]; omega

theorem or_0 (m : Nat) (h : m < 18446744073709551616) : bits .or .u64 (m : Int) 0 = (m : Int) := by
  have h1 : (BitVec.ofInt 64 (m : Int)).toNat = m := by
    rw [BitVec.ofInt_natCast, BitVec.toNat_ofNat]; exact Nat.mod_eq_of_lt (by omega)
  show IntKind.u64.wrap ((BitVec.ofInt 64 (m : Int) ||| BitVec.ofInt 64 (0 : Int)).toNat : Int) = _
  rw [BitVec.toNat_or, h1, IntKind.wrap_u64]
  have : (BitVec.ofInt 64 (0 : Int)).toNat = 0 := by decide
  rw [this, Nat.or_zero]; omega

theorem and_sg (m : Nat) (h : m < 18446744073709551616) : bits .and .u64 (m : Int) 9223372036854775808 = if 9223372036854775808 ≤ m then 9223372036854775808 else 0 := by
  have h1 : (BitVec.ofInt 64 (m : Int)).toNat = m := by
    rw [BitVec.ofInt_natCast, BitVec.toNat_ofNat]; exact Nat.mod_eq_of_lt (by omega)
  have h2 : (BitVec.ofInt 64 (9223372036854775808 : Int)).toNat = 9223372036854775808 := by decide
  show IntKind.u64.wrap ((BitVec.ofInt 64 (m : Int) &&& BitVec.ofInt 64 (9223372036854775808 : Int)).toNat : Int) = _
  rw [BitVec.toNat_and, h1, h2, IntKind.wrap_u64]
  have h3 : m &&& 9223372036854775808 = if 9223372036854775808 ≤ m then 9223372036854775808 else 0 := by
    apply Nat.eq_of_testBit_eq
    intro i
    rw [Nat.testBit_and]
    have t1 : Nat.testBit 9223372036854775808 i = decide (63 = i) := @Nat.testBit_two_pow 63 i
    rw [t1]
    by_cases hi : 63 = i
    · subst hi
      by_cases h4 : 9223372036854775808 ≤ m
      · rw [if_pos h4]
        have : Nat.testBit m 63 = true := by rw [Nat.testBit_eq_decide_div_mod_eq]; simp; omega
        rw [this, t1]; rfl
      · rw [if_neg h4]
        have : Nat.testBit m 63 = false := Nat.testBit_lt_two_pow (by omega)
        rw [this]; simp
    · split
      · rw [t1]; simp [hi]
      · simp [hi]
  rw [h3]; split <;> simp

theorem copysign_any (x b : Nat) (hx : x < 9223372036854775808) (hb : b < 18446744073709551616) (w : World) :
    Calls Try.prog 101 #[.float .f64 x, .float .f64 b] w fun e w' => e = .returned (.float .f64 (x + sgw b)) ∧ w = w' := by
  have h1 := andNot_sg x (by omega)
  have h2 := and_sg b hb
  rw [Nat.mod_eq_of_lt hx] at h1
  by_cases h : 9223372036854775808 ≤ b
  · rw [if_pos h] at h2
    have h3 := or_sg x hx
    have hs : sgw b = SG := by unfold sgw; simp only [SG]; rw [if_pos h]
    rw [hs]
    go_enter Try.func101, Try.ntmps101
    go_wp2
    go_ret
    exact ⟨rfl, rfl⟩
  · rw [if_neg h] at h2
    have h3 := or_0 x (by omega)
    have hs : sgw b = 0 := by unfold sgw; simp only [SG]; rw [if_neg h]
    rw [hs]
    go_enter Try.func101, Try.ntmps101
    go_wp2
    go_ret
    exact ⟨rfl, rfl⟩

theorem flush_any (b : Nat) (hb : b < 18446744073709551616) (w : World) :
    Calls Try.prog 107 #[.float .f64 b] w fun e w' => e = .returned (.float .f64 (flu b)) ∧ w = w' := by
  rcases flush_ways b with ⟨g0, R⟩ | ⟨g0, R⟩
  · go_enter Try.func107, Try.ntmps107
    go_wp2_with (first | (go_at_call 106; refine (of_any _ hb _).mono ?_; rintro e w' ⟨rfl, rfl⟩) | (go_at_call 101; refine (copysign_any 0 _ (by omega) hb _).mono ?_; rintro e w' ⟨rfl, rfl⟩))
    go_ret
    exact ⟨rf (by rw [R.out]), rfl⟩
  · go_enter Try.func107, Try.ntmps107
    go_wp2_with (go_at_call 106; refine (of_any _ hb _).mono ?_; rintro e w' ⟨rfl, rfl⟩)
    go_ret
    exact ⟨rf R.out, rfl⟩

theorem sgw_lt (b : Nat) : sgw b < 18446744073709551616 := by unfold sgw; simp only [SG]; split <;> omega

theorem flu_lt {b : Nat} (hb : b < 18446744073709551616) : flu b < 18446744073709551616 := by
  unfold flu; split
  · exact sgw_lt b
  · exact hb

theorem cls_sgw (b : Nat) : cls (sgw b) = 0 := by
  unfold sgw; split <;> decide

/-- A part as the guard leaves it (f: flush, c: clip, m: mute), and whether it changed it. -/
def clF (f c m : Bool) (b : Nat) : Nat := if cls b = 4 then (if m then 0 else b) else if cls b = 3 then (if c then 9218868437227405311 + sgw b else b) else if cls b = 1 then (if f then sgw b else b) else b
def clB (f c m : Bool) (b : Nat) : Bool := if cls b = 4 then m else if cls b = 3 then c else if cls b = 1 then f else false

theorem clean_ways (f c m : Bool) (b : Nat) :
    (m = true ∧ (((cls b : Nat) : Int) == 4) = true ∧ Hid (clF f c m b = 0 ∧ clB f c m b = true)) ∨
    (m = false ∧ (((cls b : Nat) : Int) == 4) = true ∧ Hid (clF f c m b = b ∧ clB f c m b = false)) ∨
    (c = true ∧ (((cls b : Nat) : Int) == 4) = false ∧ (((cls b : Nat) : Int) == 3) = true ∧ Hid (clF f c m b = 9218868437227405311 + sgw b ∧ clB f c m b = true)) ∨
    (c = false ∧ (((cls b : Nat) : Int) == 4) = false ∧ (((cls b : Nat) : Int) == 3) = true ∧ Hid (clF f c m b = b ∧ clB f c m b = false)) ∨
    (f = true ∧ (((cls b : Nat) : Int) == 4) = false ∧ (((cls b : Nat) : Int) == 3) = false ∧ (((cls b : Nat) : Int) == 1) = true ∧ Hid (clF f c m b = flu b ∧ clB f c m b = true)) ∨
    (f = false ∧ (((cls b : Nat) : Int) == 4) = false ∧ (((cls b : Nat) : Int) == 3) = false ∧ (((cls b : Nat) : Int) == 1) = true ∧ Hid (clF f c m b = b ∧ clB f c m b = false)) ∨
    ((((cls b : Nat) : Int) == 4) = false ∧ (((cls b : Nat) : Int) == 3) = false ∧ (((cls b : Nat) : Int) == 1) = false ∧ Hid (clF f c m b = b ∧ clB f c m b = false)) := by
  unfold clF clB
  by_cases h4 : cls b = 4
  · cases m
    · exact .inr (.inl ⟨rfl, bt (by omega), by simp [h4, Hid]⟩)
    · exact .inl ⟨rfl, bt (by omega), by simp [h4, Hid]⟩
  · by_cases h3 : cls b = 3
    · cases c
      · exact .inr (.inr (.inr (.inl ⟨rfl, bf (by omega), bt (by omega), by simp [h3, Hid]⟩)))
      · exact .inr (.inr (.inl ⟨rfl, bf (by omega), bt (by omega), by simp [h3, Hid]⟩))
    · by_cases h1 : cls b = 1
      · cases f
        · exact .inr (.inr (.inr (.inr (.inr (.inl ⟨rfl, bf (by omega), bf (by omega), bt (by omega), by simp [h1, Hid]⟩)))))
        · exact .inr (.inr (.inr (.inr (.inl ⟨rfl, bf (by omega), bf (by omega), bt (by omega), by simp [h1, Hid, flu]⟩))))
      · exact .inr (.inr (.inr (.inr (.inr (.inr ⟨bf (by omega), bf (by omega), bf (by omega), by simp [h4, h3, h1, Hid]⟩)))))

theorem rt2 {a b : Nat} {x y : Bool} (h : a = b) (k : x = y) : Ending.returned (.tuple #[.float .f64 a, .bool x]) = Ending.returned (.tuple #[.float .f64 b, .bool y]) := by rw [h, k]

set_option maxHeartbeats 1000000 in
theorem clean_any (f c m : Bool) (b : Nat) (hb : b < 18446744073709551616) (w : World) :
    Calls Try.prog 75 #[.agg #[.bool f, .bool c, .bool m], .float .f64 b] w fun e w' => e = .returned (.tuple #[.float .f64 (clF f c m b), .bool (clB f c m b)]) ∧ But [] w w' := by
  rcases clean_ways f c m b with ⟨rfl, g1, R⟩ | ⟨rfl, g1, R⟩ | ⟨rfl, g1, g2, R⟩ | ⟨rfl, g1, g2, R⟩ | ⟨rfl, g1, g2, g3, R⟩ | ⟨rfl, g1, g2, g3, R⟩ | ⟨g1, g2, g3, R⟩
  all_goals
    go_enter Try.func75, Try.ntmps75
    go_wp2_with (first | (go_at_call 106; refine (of_any _ hb _).mono ?_; rintro e w' ⟨rfl, rfl⟩) | (go_at_call 101; refine (copysign_any _ _ (by omega) hb _).mono ?_; rintro e w' ⟨rfl, rfl⟩) | (go_at_call 107; refine (flush_any _ hb _).mono ?_; rintro e w' ⟨rfl, rfl⟩))
    go_ret2
    exact ⟨rt2 R.out.1.symm R.out.2.symm, (But.refl _ _).alloc _⟩
end Go.Proofs.Ytnmpofjegepmaaa
