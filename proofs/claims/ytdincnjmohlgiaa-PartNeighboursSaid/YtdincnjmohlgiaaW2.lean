/- Contracts of layer 1 (part): places, ranks, orders, neighbours. -/
import Derived.Test.YtdincnjmohlgiaaW1
namespace Go.Proofs.Ytdincnjmohlgiaa
open Go.RowKit Go.Proofs.Ytdincnjmohlgiaa.Fl Go.Proofs.Ytdincnjmohlgiaa.Pt

theorem place_any (b : Nat) (hb : b < 18446744073709551616) (w : World) :
    Calls Try.prog 56 #[.float .f64 b] w fun e w' => e = .returned (.int .u64 (plc b)) ∧ w = w' := by
  rcases place_ways b hb with ⟨g0, g1, R⟩ | ⟨g0, R⟩
  · go_enter Try.func56, Try.ntmps56
    go_wp2
    go_ret
    exact ⟨rfl, rfl⟩
  · go_enter Try.func56, Try.ntmps56
    go_wp2
    go_ret
    exact ⟨ri R.out.1, rfl⟩

theorem at_any (p : Int) (h0 : 0 ≤ p) (h1 : p < 18446744073709551616) (w : World) :
    Calls Try.prog 60 #[.int .u64 p] w fun e w' => e = .returned (.float .f64 (plc p.toNat)) ∧ w = w' := by
  obtain ⟨b, rfl⟩ := Int.eq_ofNat_of_zero_le h0
  rw [Int.toNat_natCast]
  rcases place_ways b (by omega) with ⟨g0, g1, R⟩ | ⟨g0, R⟩
  · go_enter Try.func60, Try.ntmps60
    go_wp2
    go_ret
    exact ⟨rf (by simp), rfl⟩
  · go_enter Try.func60, Try.ntmps60
    go_wp2
    go_ret
    exact ⟨rf (by have := R.out.1; omega), rfl⟩

theorem rank_any (b : Nat) (hb : b < 18446744073709551616) (w : World) :
    Calls Try.prog 58 #[.float .f64 b] w fun e w' => e = .returned (.int .i64 (rnk b)) ∧ w = w' := by
  rcases rank_ways b hb with ⟨g0, R⟩ | ⟨g0, g1⟩
  · go_enter Try.func58, Try.ntmps58
    go_wp2
    go_ret
    exact ⟨ri R.out, rfl⟩
  · go_enter Try.func58, Try.ntmps58
    go_wp2_with (go_at_call 56; refine (place_any b hb _).mono ?_; rintro e w' ⟨rfl, rfl⟩)
    go_ret
    exact ⟨rfl, rfl⟩

theorem order_any (a b : Nat) (ha : a < 18446744073709551616) (hb : b < 18446744073709551616) (w : World) :
    Calls Try.prog 28 #[.float .f64 a, .float .f64 b] w fun e w' => e = .returned (.int .i64 (ordr (rnk a) (rnk b))) ∧ w = w' := by
  rcases order_ways (rnk a) (rnk b) with ⟨g, g0, R⟩ | ⟨g, g0, g1, R⟩ | ⟨g0, g1, R⟩
  all_goals
    go_enter Try.func28, Try.ntmps28
    go_wp2_with (go_at_call 58; refine (rank_any _ (by assumption) _).mono ?_; rintro e w' ⟨rfl, rfl⟩)
    go_ret
    exact ⟨ri R.out, rfl⟩

theorem same_any (a b : Nat) (ha : a < 18446744073709551616) (hb : b < 18446744073709551616) (w : World) :
    Calls Try.prog 26 #[.float .f64 a, .float .f64 b] w fun e w' => e = .returned (.bool (ordr (rnk a) (rnk b) == 0)) ∧ w = w' := by
  go_enter Try.func26, Try.ntmps26
  go_wp2_with (go_at_call 28; refine (order_any _ _ ha hb _).mono ?_; rintro e w' ⟨rfl, rfl⟩)
  go_ret
  exact ⟨rfl, rfl⟩

/-- The reference's index. -/
theorem index_any (b : Nat) (hb : b < 18446744073709551616) (w : World) :
    Calls Try.prog 57 #[.float .f64 b] w fun e w' => e = .returned (.int .u64 (idx b)) ∧ w = w' := by
  obtain ⟨c, f, p, c1, _, p1, _, hc, hf, hp, H⟩ := names b hb
  rcases index_ways b hb c H.out.1 with ⟨g0, R⟩ | ⟨g0, g1, g2, R⟩ | ⟨g0, g1, g2, R⟩
  all_goals
    go_enter Try.func57, Try.ntmps57
    go_wp2_with (go_at_call 19; refine (class_any b hb _).mono ?_; rintro e w' ⟨rfl, rfl⟩)
    go_ret
    exact ⟨ri R.out, rfl⟩

theorem refat_any (p : Int) (h0 : 0 ≤ p) (h1 : p ≤ 18437736874454810625) (w : World) :
    Calls Try.prog 61 #[.int .u64 p] w fun e w' => e = .returned (.float .f64 (ati p.toNat)) ∧ w = w' := by
  obtain ⟨b, rfl⟩ := Int.eq_ofNat_of_zero_le h0
  rw [Int.toNat_natCast]
  rcases refat_ways b (by omega) with ⟨g0, g1, R⟩ | ⟨g0, g1, R⟩
  all_goals
    go_enter Try.func61, Try.ntmps61
    go_wp2
    go_ret
    exact ⟨rf (by have := R.out; omega), rfl⟩

theorem reforder_any (a b : Nat) (ha : a < 18446744073709551616) (hb : b < 18446744073709551616) (w : World) :
    Calls Try.prog 29 #[.float .f64 a, .float .f64 b] w fun e w' => e = .returned (.int .i64 (ordr (idx a : Nat) (idx b : Nat))) ∧ w = w' := by
  rcases order_waysN (idx a) (idx b) with ⟨g, g0, R⟩ | ⟨g, g0, g1, R⟩ | ⟨g0, g1, R⟩
  all_goals
    go_enter Try.func29, Try.ntmps29
    go_wp2_with (go_at_call 57; refine (index_any _ (by assumption) _).mono ?_; rintro e w' ⟨rfl, rfl⟩)
    go_ret
    exact ⟨ri R.out, rfl⟩

theorem refsame_any (a b : Nat) (ha : a < 18446744073709551616) (hb : b < 18446744073709551616) (w : World) :
    Calls Try.prog 27 #[.float .f64 a, .float .f64 b] w fun e w' => e = .returned (.bool (((idx a : Nat) : Int) == (idx b : Nat))) ∧ w = w' := by
  go_enter Try.func27, Try.ntmps27
  go_wp2_with (go_at_call 57; refine (index_any _ (by assumption) _).mono ?_; rintro e w' ⟨rfl, rfl⟩)
  go_ret
  exact ⟨rfl, rfl⟩

theorem abs_any (b : Nat) (hb : b < 18446744073709551616) (w : World) :
    Calls Try.prog 37 #[.float .f64 b] w fun e w' => e = .returned (.float .f64 (b % 9223372036854775808)) ∧ w = w' := by
  have h1 := andNot_sg b hb
  obtain ⟨c, hc⟩ : ∃ c, c = b % 9223372036854775808 := ⟨_, rfl⟩
  rw [← hc] at h1
  have HC := Lib.hid hc
  clear hc
  go_enter Try.func37, Try.ntmps37
  go_wp2
  go_ret
  exact ⟨rf HC.out, rfl⟩

/-- Is it the infinity? -/
theorem isinf_pos (b : Nat) (hb : b < 18446744073709551616) (w : World) :
    Calls Try.prog 36 #[.float .f64 b, .int .i64 1] w fun e w' => e = .returned (.bool (decide (b = INF))) ∧ w = w' := by
  have h1 := inf_gt hb
  go_enter Try.func36, Try.ntmps36
  go_wp2
  go_ret
  exact ⟨rfl, rfl⟩

@[go_sem] theorem unary_neg_float (k : FloatKind) (b : Nat) : Op.unary .neg (.float k b) = pure (.float k (Op.negFloat k b)) := rfl

theorem negFloat_ng (b : Nat) (hb : b < 18446744073709551616) : Op.negFloat .f64 b = ng b := by
  have hx : b ^^^ 9223372036854775808 = ng b := by
    unfold ng; simp only [SG]
    by_cases h : 9223372036854775808 ≤ b
    · rw [if_pos h]
      have e : b = (b - 9223372036854775808) ||| 9223372036854775808 := by
        have := Nat.two_pow_add_eq_or_of_lt (i := 63) (b := b - 9223372036854775808) (by omega) 1
        rw [Nat.mul_one, Nat.or_comm] at this
        rw [← this]; omega
      apply Nat.eq_of_testBit_eq
      intro i
      rw [Nat.testBit_xor]
      have t1 : Nat.testBit 9223372036854775808 i = decide (63 = i) := @Nat.testBit_two_pow 63 i
      rw [t1]
      by_cases hi : 63 = i
      · subst hi
        have t2 : Nat.testBit b 63 = true := by rw [e, Nat.testBit_or, t1]; simp
        have t3 : Nat.testBit (b - 9223372036854775808) 63 = false := Nat.testBit_lt_two_pow (by omega)
        rw [t2, t3]; rfl
      · conv => lhs; rw [e]
        rw [Nat.testBit_or, t1]
        simp [hi]
    · rw [if_neg h]
      have := Nat.two_pow_add_eq_or_of_lt (i := 63) (b := b) (by omega) 1
      rw [Nat.mul_one] at this
      have e : b + 9223372036854775808 = 9223372036854775808 ||| b := by rw [← this]; omega
      rw [e]
      apply Nat.eq_of_testBit_eq
      intro i
      rw [Nat.testBit_xor, Nat.testBit_or]
      have t1 : Nat.testBit 9223372036854775808 i = decide (63 = i) := @Nat.testBit_two_pow 63 i
      rw [t1]
      by_cases hi : 63 = i
      · subst hi
        have t3 : Nat.testBit b 63 = false := Nat.testBit_lt_two_pow (by omega)
        rw [t3]; rfl
      · simp [hi]
  exact hx

theorem isinf_neg (b : Nat) (hb : b < 18446744073709551616) (w : World) :
    Calls Try.prog 36 #[.float .f64 b, .int .i64 (-1)] w fun e w' => e = .returned (.bool (decide (ng b = INF))) ∧ w = w' := by
  have h1 := inf_gt (ng_lt hb)
  have h2 := negFloat_ng b hb
  go_enter Try.func36, Try.ntmps36
  go_wp2
  go_ret
  exact ⟨rfl, rfl⟩

theorem eqv_any (a b : Nat) (ha : a < 18446744073709551616) (hb : b < 18446744073709551616) (w : World) :
    Calls Try.prog 20 #[.float .f64 a, .float .f64 b] w fun e w' => e = .returned (.bool (eqv a b)) ∧ w = w' := by
  rcases eqv_ways a b ha hb with ⟨g0, R⟩ | ⟨g0, g1, R⟩ | ⟨g0, g1, g2, R⟩
  all_goals
    go_enter Try.func20, Try.ntmps20
    go_wp2
    go_ret
    exact ⟨rb R.out, rfl⟩

theorem next_any (b : Nat) (hb : b < 18446744073709551616) (w : World) :
    Calls Try.prog 31 #[.float .f64 b] w fun e w' => e = .returned (.float .f64 (nxt b)) ∧ w = w' := by
  rcases next_ways b hb with ⟨g0, R⟩ | ⟨g0, g1, R⟩ | ⟨q, g0, g1, g2, g3, R⟩
  all_goals
    go_enter Try.func31, Try.ntmps31
    go_wp2_with (first | (go_at_call 36; refine (isinf_pos _ hb _).mono ?_; rintro e w' ⟨rfl, rfl⟩) | (go_at_call 56; refine (place_any _ hb _).mono ?_; rintro e w' ⟨rfl, rfl⟩) | (go_at_call 60; refine (at_any _ (by omega) (by omega) _).mono ?_; rintro e w' ⟨rfl, rfl⟩))
    go_ret
    first | exact ⟨rf R.out, rfl⟩ | exact ⟨rf (by rw [Int.toNat_natCast]; exact R.out), rfl⟩

theorem prev_any (b : Nat) (hb : b < 18446744073709551616) (w : World) :
    Calls Try.prog 33 #[.float .f64 b] w fun e w' => e = .returned (.float .f64 (prv b)) ∧ w = w' := by
  rcases prev_ways b hb with ⟨g0, R⟩ | ⟨g0, g1, R⟩ | ⟨q, g0, g1, g2, g3, R⟩
  all_goals
    go_enter Try.func33, Try.ntmps33
    go_wp2_with (first | (go_at_call 36; refine (isinf_neg _ hb _).mono ?_; rintro e w' ⟨rfl, rfl⟩) | (go_at_call 56; refine (place_any _ hb _).mono ?_; rintro e w' ⟨rfl, rfl⟩) | (go_at_call 60; refine (at_any _ (by omega) (by omega) _).mono ?_; rintro e w' ⟨rfl, rfl⟩))
    go_ret
    first | exact ⟨rf R.out, rfl⟩ | exact ⟨rf (by rw [Int.toNat_natCast]; exact R.out), rfl⟩

theorem docnext_any (b : Nat) (hb : b < 18446744073709551616) (w : World) :
    Calls Try.prog 32 #[.float .f64 b] w fun e w' => e = .returned (.float .f64 (dnx b)) ∧ w = w' := by
  rcases dnx_ways b hb with ⟨g0, R⟩ | ⟨g0, g1, R⟩ | ⟨g0, g1, g2, R⟩
  · go_enter Try.func32, Try.ntmps32
    go_wp2_with (go_at_call 19; refine (class_any _ hb _).mono ?_; rintro e w' ⟨rfl, rfl⟩)
    go_ret
    exact ⟨rf R.out, rfl⟩
  · have g3 : ¬ (18437736874454810625 : Int) < (idx b : Nat) + 1 := by omega
    go_enter Try.func32, Try.ntmps32
    go_wp2_with (first | (go_at_call 19; refine (class_any _ hb _).mono ?_; rintro e w' ⟨rfl, rfl⟩) | (go_at_call 57; refine (index_any _ hb _).mono ?_; rintro e w' ⟨rfl, rfl⟩) | (go_at_call 61; refine (refat_any _ (by omega) (by omega) _).mono ?_; rintro e w' ⟨rfl, rfl⟩))
    go_ret
    exact ⟨rf (by rw [← R.out]), rfl⟩
  · have g3 : ((idx b : Nat) : Int) = 18437736874454810625 := by omega
    go_enter Try.func32, Try.ntmps32
    go_wp2_with (first | (go_at_call 19; refine (class_any _ hb _).mono ?_; rintro e w' ⟨rfl, rfl⟩) | (go_at_call 57; refine (index_any _ hb _).mono ?_; rintro e w' ⟨rfl, rfl⟩) | (go_at_call 61; refine (refat_any _ (by omega) (by omega) _).mono ?_; rintro e w' ⟨rfl, rfl⟩))
    go_ret
    exact ⟨rf (by rw [← R.out]), rfl⟩

theorem docprev_any (b : Nat) (hb : b < 18446744073709551616) (w : World) :
    Calls Try.prog 34 #[.float .f64 b] w fun e w' => e = .returned (.float .f64 (dpr b)) ∧ w = w' := by
  rcases dpr_ways b hb with ⟨g0, R⟩ | ⟨g0, g1, R⟩ | ⟨g0, g1, g2, g3, R⟩
  all_goals
    go_enter Try.func34, Try.ntmps34
    go_wp2_with (first | (go_at_call 19; refine (class_any _ hb _).mono ?_; rintro e w' ⟨rfl, rfl⟩) | (go_at_call 57; refine (index_any _ hb _).mono ?_; rintro e w' ⟨rfl, rfl⟩) | (go_at_call 61; refine (refat_any _ (by omega) (by omega) _).mono ?_; rintro e w' ⟨rfl, rfl⟩))
    go_ret
    first | exact ⟨rf R.out, rfl⟩ | exact ⟨rf (by rw [← R.out]; congr 1), rfl⟩

theorem ulps_any (a b : Nat) (ha : a < 18446744073709551616) (hb : b < 18446744073709551616) (w : World) :
    Calls Try.prog 24 #[.float .f64 a, .float .f64 b] w fun e w' => e = .returned (ulpV a b) ∧ w = w' := by
  rcases ulps_ways a b ha hb with ⟨g0, R⟩ | ⟨g0, g1, R⟩ | ⟨g0, g1, g2, g3, R⟩ | ⟨g0, g1, g2, g3, R⟩
  all_goals
    go_enter Try.func24, Try.ntmps24
    go_wp2_with (first | (go_at_call 28; refine (order_any _ _ ha hb _).mono ?_; rintro e w' ⟨rfl, rfl⟩) | (go_at_call 56; refine (place_any _ (by assumption) _).mono ?_; rintro e w' ⟨rfl, rfl⟩))
    go_ret2
    have R' := R.out
    exact ⟨by first | (rw [ulpV_1 (.inl R')]; rfl) | (rw [ulpV_1 (.inr R')]; rfl) | (rw [ulpV_0 R']; rfl), rfl⟩

theorem doculps_any (a b : Nat) (ha : a < 18446744073709551616) (hb : b < 18446744073709551616) (w : World) :
    Calls Try.prog 25 #[.float .f64 a, .float .f64 b] w fun e w' => e = .returned (dulV a b) ∧ w = w' := by
  have ia := idx_lt ha
  have ib := idx_lt hb
  rcases dul_ways a b with ⟨g0, R⟩ | ⟨g0, g1, R⟩ | ⟨g0, g1, g2, R⟩ | ⟨g0, g1, g2, R⟩ | ⟨g0, g1, g2, g3, R⟩
  · go_enter Try.func25, Try.ntmps25
    go_wp2_with (go_at_call 19; refine (class_any _ (by assumption) _).mono ?_; rintro e w' ⟨rfl, rfl⟩)
    go_ret2
    exact ⟨by rw [dulV_1 (.inl R.out)]; rfl, rfl⟩
  · go_enter Try.func25, Try.ntmps25
    go_wp2_with (go_at_call 19; refine (class_any _ (by assumption) _).mono ?_; rintro e w' ⟨rfl, rfl⟩)
    go_ret2
    exact ⟨by rw [dulV_1 (.inr R.out)]; rfl, rfl⟩
  · go_enter Try.func25, Try.ntmps25
    go_wp2_with (first | (go_at_call 19; refine (class_any _ (by assumption) _).mono ?_; rintro e w' ⟨rfl, rfl⟩) | (go_at_call 57; refine (index_any _ (by assumption) _).mono ?_; rintro e w' ⟨rfl, rfl⟩))
    go_ret2
    exact ⟨by rw [dulV_0 R.out.2, ← R.out.1]; rfl, rfl⟩
  · go_enter Try.func25, Try.ntmps25
    go_wp2_with (first | (go_at_call 19; refine (class_any _ (by assumption) _).mono ?_; rintro e w' ⟨rfl, rfl⟩) | (go_at_call 57; refine (index_any _ (by assumption) _).mono ?_; rintro e w' ⟨rfl, rfl⟩))
    go_ret2
    exact ⟨by rw [dulV_0 R.out.2, ← R.out.1]; rfl, rfl⟩
  · go_enter Try.func25, Try.ntmps25
    go_wp2_with (first | (go_at_call 19; refine (class_any _ (by assumption) _).mono ?_; rintro e w' ⟨rfl, rfl⟩) | (go_at_call 57; refine (index_any _ (by assumption) _).mono ?_; rintro e w' ⟨rfl, rfl⟩))
    go_ret2
    exact ⟨by rw [dulV_0 R.out.2, ← R.out.1]; rfl, rfl⟩

/-! The signs. -/
theorem or_sg (m : Nat) (h : m < 9223372036854775808) : bits .or .u64 (m : Int) 9223372036854775808 = ((m + 9223372036854775808 : Nat) : Int) := by
  have h1 : (BitVec.ofInt 64 (m : Int)).toNat = m := by
    rw [BitVec.ofInt_natCast, BitVec.toNat_ofNat]; exact Nat.mod_eq_of_lt (by omega)
  have h2 : (BitVec.ofInt 64 (9223372036854775808 : Int)).toNat = 9223372036854775808 := by decide
  show IntKind.u64.wrap ((BitVec.ofInt 64 (m : Int) ||| BitVec.ofInt 64 (9223372036854775808 : Int)).toNat : Int) = _
  rw [BitVec.toNat_or, h1, h2, IntKind.wrap_u64]
  have h3 := Nat.two_pow_add_eq_or_of_lt (i := 63) (b := m) (by omega) 1
  rw [Nat.mul_one, Nat.or_comm] at h3
  have h4 : m ||| 9223372036854775808 = m + 9223372036854775808 := by
    have : (2 : Nat) ^ 63 = 9223372036854775808 := by decide
    rw [this] at h3; omega
  rw [h4]; omega

theorem or_0 (m : Nat) (h : m < 18446744073709551616) : bits .or .u64 (m : Int) 0 = (m : Int) := by
  have h1 : (BitVec.ofInt 64 (m : Int)).toNat = m := by
    rw [BitVec.ofInt_natCast, BitVec.toNat_ofNat]; exact Nat.mod_eq_of_lt (by omega)
  show IntKind.u64.wrap ((BitVec.ofInt 64 (m : Int) ||| BitVec.ofInt 64 (0 : Int)).toNat : Int) = _
  rw [BitVec.toNat_or, h1, IntKind.wrap_u64]
  have : (BitVec.ofInt 64 (0 : Int)).toNat = 0 := by decide
  rw [this, Nat.or_zero]; omega

theorem and_sg (m : Nat) (h : m < 18446744073709551616) : bits .and .u64 (m : Int) 9223372036854775808 = if 9223372036854775808 ≤ m then 9223372036854775808 else 0 := by
  have h1 : (BitVec.ofInt 64 (m : Int)).toNat = m := by
    rw [BitVec.ofInt_natCast, BitVec.toNat_ofNat]; exact Nat.mod_eq_of_lt (by omega)
  have h2 : (BitVec.ofInt 64 (9223372036854775808 : Int)).toNat = 9223372036854775808 := by decide
  show IntKind.u64.wrap ((BitVec.ofInt 64 (m : Int) &&& BitVec.ofInt 64 (9223372036854775808 : Int)).toNat : Int) = _
  rw [BitVec.toNat_and, h1, h2, IntKind.wrap_u64]
  have h3 : m &&& 9223372036854775808 = if 9223372036854775808 ≤ m then 9223372036854775808 else 0 := by
    apply Nat.eq_of_testBit_eq
    intro i
    rw [Nat.testBit_and]
    have t1 : Nat.testBit 9223372036854775808 i = decide (63 = i) := @Nat.testBit_two_pow 63 i
    rw [t1]
    by_cases hi : 63 = i
    · subst hi
      by_cases h4 : 9223372036854775808 ≤ m
      · rw [if_pos h4]
        have : Nat.testBit m 63 = true := by rw [Nat.testBit_eq_decide_div_mod_eq]; simp; omega
        rw [this, t1]; rfl
      · rw [if_neg h4]
        have : Nat.testBit m 63 = false := Nat.testBit_lt_two_pow (by omega)
        rw [this]; simp
    · split
      · rw [t1]; simp [hi]
      · simp [hi]
  rw [h3]; split <;> simp

theorem signbit_any (b : Nat) (hb : b < 18446744073709551616) (w : World) :
    Calls Try.prog 23 #[.float .f64 b] w fun e w' => e = .returned (.bool (sgb b)) ∧ w = w' := by
  have h1 : wrap64 (b : Int) = if 9223372036854775808 ≤ b then (b : Int) - 18446744073709551616 else b := by unfold wrap64; split <;> omega
  have h2 : decide (wrap64 (b : Int) < 0) = sgb b := by rw [h1]; unfold sgb; rw [decide_eq_decide]; simp only [SG]; split <;> omega
  clear h1
  have H2 := Lib.hid h2
  clear h2
  go_enter Try.func23, Try.ntmps23
  go_wp2
  go_ret
  exact ⟨rb H2.out, rfl⟩

theorem copysign_any (x b : Nat) (hx : x < 9223372036854775808) (hb : b < 18446744073709551616) (w : World) :
    Calls Try.prog 59 #[.float .f64 x, .float .f64 b] w fun e w' => e = .returned (.float .f64 (x + sgw b)) ∧ w = w' := by
  have h1 := andNot_sg x (by omega)
  have h2 := and_sg b hb
  rw [Nat.mod_eq_of_lt hx] at h1
  by_cases h : 9223372036854775808 ≤ b
  · rw [if_pos h] at h2
    have h3 := or_sg x hx
    have hs : sgw b = SG := by unfold sgw; simp only [SG]; rw [if_pos h]
    rw [hs]
    go_enter Try.func59, Try.ntmps59
    go_wp2
    go_ret
    exact ⟨rfl, rfl⟩
  · rw [if_neg h] at h2
    have h3 := or_0 x (by omega)
    have hs : sgw b = 0 := by unfold sgw; simp only [SG]; rw [if_neg h]
    rw [hs]
    go_enter Try.func59, Try.ntmps59
    go_wp2
    go_ret
    exact ⟨rfl, rfl⟩

theorem flush_any (b : Nat) (hb : b < 18446744073709551616) (w : World) :
    Calls Try.prog 30 #[.float .f64 b] w fun e w' => e = .returned (.float .f64 (flu b)) ∧ w = w' := by
  rcases flush_ways b with ⟨g0, R⟩ | ⟨g0, R⟩
  · go_enter Try.func30, Try.ntmps30
    go_wp2_with (first | (go_at_call 18; refine (of_any _ hb _).mono ?_; rintro e w' ⟨rfl, rfl⟩) | (go_at_call 59; refine (copysign_any 0 _ (by omega) hb _).mono ?_; rintro e w' ⟨rfl, rfl⟩))
    go_ret
    exact ⟨rf (by rw [R.out]), rfl⟩
  · go_enter Try.func30, Try.ntmps30
    go_wp2_with (go_at_call 18; refine (of_any _ hb _).mono ?_; rintro e w' ⟨rfl, rfl⟩)
    go_ret
    exact ⟨rf R.out, rfl⟩

theorem refflush_any (b : Nat) (hb : b < 18446744073709551616) (w : World) :
    Calls Try.prog 35 #[.float .f64 b] w fun e w' => e = .returned (.float .f64 (flu b)) ∧ w = w' := by
  rcases flush_ways b with ⟨g0, R⟩ | ⟨g0, R⟩
  all_goals
    go_enter Try.func35, Try.ntmps35
    go_wp2_with (go_at_call 19; refine (class_any _ hb _).mono ?_; rintro e w' ⟨rfl, rfl⟩)
    go_ret
    first | exact ⟨rf R.out, rfl⟩ | exact ⟨rf (by rw [R.out]; unfold sgw; simp only [SG]; split <;> omega), rfl⟩

theorem docsplit_any (b : Nat) (hb : b < 18446744073709551616) (w : World) :
    Calls Try.prog 16 #[.float .f64 b] w fun e w' => e = .returned (splitV b) ∧ w = w' := by
  obtain ⟨c, f, p, c1, f1, p1, f2, hc, hf, hp, H⟩ := names b hb
  have hs : decide ((9223372036854775808 : Int) ≤ b) = sgb b := by unfold sgb; rw [decide_eq_decide]; simp only [SG]; omega
  rcases split_ways H.out.1 H.out.2.1 H.out.2.2 with ⟨g0, R⟩ | ⟨g0, _, g1, g2, R⟩ | ⟨g0, _, g1, g2, R⟩
  · go_enter Try.func16, Try.ntmps16
    go_wp2_with (go_at_call 19; refine (class_any b hb _).mono ?_; rintro e w' ⟨rfl, rfl⟩)
    exact bodyPost_ret (v := .tuple #[.bool false, .int .u64 0, .int .i64 0, .int .i64 5]) (by simp [results, Try.results16, go_sem]) rfl ⟨by unfold splitV; rw [if_pos R.out], rfl⟩
  · go_enter Try.func16, Try.ntmps16
    go_wp2_with (go_at_call 19; refine (class_any b hb _).mono ?_; rintro e w' ⟨rfl, rfl⟩)
    exact bodyPost_ret (v := .tuple #[.bool (sgb b), .int .u64 f, .int .i64 (-1074), .int .i64 0]) (by simp [results, Try.results16, go_sem]) rfl ⟨by unfold splitV; rw [if_neg (by have := R.out; omega), R.out.2.1, R.out.2.2.2], rfl⟩
  · go_enter Try.func16, Try.ntmps16
    go_wp2_with (go_at_call 19; refine (class_any b hb _).mono ?_; rintro e w' ⟨rfl, rfl⟩)
    exact bodyPost_ret (v := .tuple #[.bool (sgb b), .int .u64 (f + 4503599627370496), .int .i64 (p - 1075), .int .i64 0]) (by simp [results, Try.results16, go_sem]) rfl ⟨by unfold splitV; rw [if_neg (by have := R.out; omega), R.out.2.1, R.out.2.2.2], rfl⟩
end Go.Proofs.Ytdincnjmohlgiaa
