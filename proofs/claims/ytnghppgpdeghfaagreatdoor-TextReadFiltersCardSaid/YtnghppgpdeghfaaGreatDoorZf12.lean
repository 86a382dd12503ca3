/- math.Ldexp of a float from 1 up. The reference's value. -/
import Derived.Test.YtnghppgpdeghfaaGreatDoorZf11
import Derived.Laws.FloatArith
import Derived.Test.YtnghppgpdeghfaaGreatDoorZf9
namespace Go.Proofs.YtnghppgpdeghfaaGreatDoor
open Go.RowKit Go.Proofs.YtnghppgpdeghfaaGreatDoor.Fl Go.Proofs.YtnghppgpdeghfaaGreatDoor.Pt Go.Proofs.YtnghppgpdeghfaaGreatDoor.Tx

theorem wr_small' {x : Int} (h1 : -100000 ≤ x) (h2 : x ≤ 100000) : wrap64 x = x := by unfold wrap64; omega
theorem ord_pos {a b : Nat} (ha : a ≤ 9218868437227405312) (hb : b ≤ 9218868437227405312) : FloatKind.f64.format.order a b = some (compare (a : Int) (b : Int)) := by
  show Ieee.double.order a b = _
  have na : nan a = false := decide_eq_false (by unfold INF SG; omega)
  have nb : nan b = false := decide_eq_false (by unfold INF SG; omega)
  rw [order_eq (by omega) (by omega), na, nb, if_neg (by decide)]
  unfold rk
  rw [if_neg (by unfold SG; omega), if_neg (by unfold SG; omega)]
theorem and_2047 : ∀ q : Nat, q < 2048 → bits .and .i64 (q : Int) 2047 = (q : Int) := by decide +kernel
theorem andNot_inf (x : Nat) (hx : x < 9223372036854775808) : bits .andNot .u64 (x : Int) 9218868437227405312 = ((x % 4503599627370496 : Nat) : Int) := by
  have h1 : (BitVec.ofInt 64 (x : Int)).toNat = x := by
    rw [BitVec.ofInt_natCast, BitVec.toNat_ofNat]; exact Nat.mod_eq_of_lt (by omega)
  have h2 : (~~~BitVec.ofInt 64 (9218868437227405312 : Int)).toNat = 9227875636482146303 := by decide
  show IntKind.u64.wrap ((BitVec.ofInt 64 (x : Int) &&& ~~~BitVec.ofInt 64 (9218868437227405312 : Int)).toNat : Int) = _
  rw [BitVec.toNat_and, h1, h2, IntKind.wrap_u64]
  have h3 : x &&& 4503599627370495 = x % 2 ^ 52 := Nat.and_two_pow_sub_one_eq_mod x 52
  have h4 : x &&& 9227875636482146303 = x &&& 4503599627370495 := by
    have h5 : (9227875636482146303 : Nat) = 9223372036854775808 ||| 4503599627370495 := by decide
    have h6 : x &&& 9223372036854775808 = 0 := by
      apply Nat.eq_of_testBit_eq
      intro i
      have t1 : Nat.testBit 9223372036854775808 i = decide (63 = i) := @Nat.testBit_two_pow 63 i
      rw [Nat.testBit_and, t1, Nat.zero_testBit]
      by_cases hi : 63 = i
      · subst hi; rw [Nat.testBit_lt_two_pow (by omega)]; rfl
      · simp [hi]
    rw [h5, Nat.and_or_distrib_left, h6, Nat.zero_or]
  rw [h4, h3]
  have : (2 : Nat) ^ 52 = 4503599627370496 := by decide
  omega
theorem or_exp (f k : Nat) (hf : f < 4503599627370496) (hk : k < 2048) : bits .or .u64 (f : Int) ((k : Int) * 4503599627370496) = ((k * 4503599627370496 + f : Nat) : Int) := by
  have h1 : (BitVec.ofInt 64 (f : Int)).toNat = f := by
    rw [BitVec.ofInt_natCast, BitVec.toNat_ofNat]; exact Nat.mod_eq_of_lt (by omega)
  have h2 : (BitVec.ofInt 64 ((k * 4503599627370496 : Nat) : Int)).toNat = k * 4503599627370496 := by
    rw [BitVec.ofInt_natCast, BitVec.toNat_ofNat]; exact Nat.mod_eq_of_lt (by omega)
  rw [show (k : Int) * 4503599627370496 = ((k * 4503599627370496 : Nat) : Int) by omega]
  show IntKind.u64.wrap ((BitVec.ofInt 64 (f : Int) ||| BitVec.ofInt 64 ((k * 4503599627370496 : Nat) : Int)).toNat : Int) = _
  rw [BitVec.toNat_or, h1, h2, IntKind.wrap_u64]
  have h3 := Nat.two_pow_add_eq_or_of_lt (i := 52) (b := f) (by omega) k
  rw [show (2 : Nat) ^ 52 = 4503599627370496 by decide, Nat.mul_comm] at h3
  rw [Nat.or_comm, ← h3]; omega
theorem isinf_zero (b : Nat) (hb : b < 9223372036854775808) (w : World) : Calls Tryz.prog 53 #[.float .f64 b, .int .i64 0] w fun e w' => e = .returned (.bool (decide (b = INF))) ∧ w = w' := by
  have h1 := inf_gt (b := b) (by omega)
  go_enter Tryz.func53, Tryz.ntmps53
  go_wp2_with (go_at_call 65; refine (abs_any b (by omega) _).mono ?_; rintro e w' ⟨rfl, rfl⟩; rw [Nat.mod_eq_of_lt hb])
  go_ret
  exact ⟨rfl, rfl⟩
theorem norm_any (b : Nat) (hb : b < 9218868437227405312) (h1 : 4607182418800017408 ≤ b) (w : World) : Calls Tryz.prog 131 #[.float .f64 b] w fun e w' => e = .returned (.tuple #[.float .f64 b, .int .i64 0]) ∧ w = w' := by
  have o1 := ord_pos (a := b) (b := 4503599627370496) (by omega) (by omega)
  rw [cmp_gt (by omega)] at o1
  go_enter Tryz.func131, Tryz.ntmps131
  go_wp2_with (go_at_call 65; refine (abs_any b (by omega) _).mono ?_; rintro e w' ⟨rfl, rfl⟩; rw [Nat.mod_eq_of_lt (show b < 9223372036854775808 by omega)])
  exact bodyPost_ret (results_tmp2 rfl _ _ _) rfl ⟨rfl, rfl⟩
theorem V_w (j : Nat) : V ((j + 1) * ON) = 2 ^ (52 + j) := by
  have h := V_mk (s := j) (M := ON) (Nat.le_refl _) (by unfold ON; omega)
  rw [show (j + 1) * ON = j * ON + ON by rw [Nat.add_mul, Nat.one_mul], h, Nat.pow_add]
theorem V_w' {a n : Nat} (j : Nat) (ha : a = 52 + j) (hn : n = (j + 1) * ON) : V n = 2 ^ a := by rw [ha, hn]; exact V_w j
theorem V_1074 (a : Nat) (h : a = 1074) : V 4607182418800017408 = 2 ^ a := V_w' 1022 h rfl
theorem V_1021 (a : Nat) (h : a = 1021) : V 4368491638549381120 = 2 ^ a := V_w' 969 h rfl
theorem ldexp_law (x q f k : Nat) (e : Int) (one a : Nat) (hx : x = q * 4503599627370496 + f) (hf : f < 4503599627370496) (hq : 1 ≤ q) (hq2 : q ≤ 2046) (hk : 1 ≤ k) (hk2 : k ≤ 2046) (h1 : one < 9218868437227405312) (ha : V one = 2 ^ a) (he : (k : Int) = e + q + 1074 - a) : Ieee.double.mul one (k * 4503599627370496 + f) = some (RN (V x) e) := by
  have hS : (9223372036854775808 : Nat) = SG := rfl
  have f1 : fin one := ⟨by omega, by rw [Nat.mod_eq_of_lt (by rw [← hS]; omega)]; exact h1⟩
  have f2 : fin (k * 4503599627370496 + f) := ⟨by omega, by rw [Nat.mod_eq_of_lt (by rw [← hS]; omega)]; show _ < 9218868437227405312; omega⟩
  have a1 : ∀ s n, (Fl.sg s n).natAbs = n := by intro s n; unfold Fl.sg; cases s <;> simp
  have y1 : V (k * 4503599627370496 + f) = (4503599627370496 + f) * 2 ^ (k - 1) := by
    rw [show k * 4503599627370496 + f = (k - 1) * ON + (4503599627370496 + f) by unfold ON; omega]
    exact V_mk (by unfold ON; omega) (by unfold ON; omega)
  have y2 : V x = (4503599627370496 + f) * 2 ^ (q - 1) := by
    rw [hx, show q * 4503599627370496 + f = (q - 1) * ON + (4503599627370496 + f) by unfold ON; omega]
    exact V_mk (by unfold ON; omega) (by unfold ON; omega)
  rw [mul_fin f1 f2]
  unfold ky
  rw [a1, a1, Nat.mod_eq_of_lt (show one < SG by rw [← hS]; omega), Nat.mod_eq_of_lt (show k * 4503599627370496 + f < SG by rw [← hS]; omega), decide_eq_false (show ¬ SG ≤ one by rw [← hS]; omega), decide_eq_false (show ¬ SG ≤ k * 4503599627370496 + f by rw [← hS]; omega), ha, y1, y2]
  unfold wd
  rw [if_neg (by decide), Nat.zero_add]
  congr 1
  have s1 := RN_scale (4503599627370496 + f) (a + (k - 1)) (-1074 + (a + (k - 1) : Nat))
  have s2 := RN_scale (4503599627370496 + f) (q - 1) (e + (q - 1 : Nat))
  rw [show e + ((q - 1 : Nat) : Int) - ((q - 1 : Nat) : Int) = e by omega] at s2
  rw [show (-1074 : Int) + ((a + (k - 1) : Nat) : Int) - ((a + (k - 1) : Nat) : Int) = -1074 by omega] at s1
  rw [s2, show 2 ^ a * ((4503599627370496 + f) * 2 ^ (k - 1)) = (4503599627370496 + f) * 2 ^ (a + (k - 1)) by rw [Nat.pow_add]; simp [Nat.mul_left_comm], s1]
  congr 1
  omega
theorem inf_pos (w : World) : Calls Tryz.prog 78 #[.int .i64 1] w fun e w' => e = .returned (.float .f64 9218868437227405312) ∧ w' = w := by
  go_enter Tryz.func78, Tryz.ntmps78
  go_wp2
  go_ret
  exact ⟨rfl, rfl⟩
set_option linter.unusedSimpArgs false in
set_option maxRecDepth 100000 in
set_option maxHeartbeats 2000000 in
theorem ldexp_mid (x q f : Nat) (e : Int) (hx : x = q * 4503599627370496 + f) (hf : f < 4503599627370496) (hq : 1023 ≤ q) (hq2 : q ≤ 2046) (he1 : -10000 ≤ e) (he2 : e ≤ 10000) (h1 : -1022 ≤ e + ((q : Int) - 1023)) (h2 : e + ((q : Int) - 1023) ≤ 1023) (W : World) : Calls Tryz.prog 120 #[.float .f64 x, .int .i64 e] W fun r w' => r = .returned (.float .f64 (RN (V x) e)) ∧ But [] W w' := by
  have hxl : 4607182418800017408 ≤ x := by omega
  have hxu : x < 9218868437227405312 := by omega
  have o1 := ord_pos (a := x) (b := 0) (by omega) (by omega)
  have o2 := ord_pos (a := x) (b := 4503599627370496) (by omega) (by omega)
  rw [cmp_gt (by omega)] at o1 o2
  have HI := Lib.hid (show decide (x = INF) = false from decide_eq_false (by simp only [INF]; omega))
  have HN := Lib.hid (show nan x = false from decide_eq_false (by simp only [INF, SG]; omega))
  have b1 := and_2047 q (by omega)
  have b2 := andNot_inf x (by omega)
  have e1 : (x : Int) / 4503599627370496 = (q : Int) := by omega
  have e2 : x % 4503599627370496 = f := by omega
  rw [e2] at b2
  clear e2
  obtain ⟨k, hk⟩ : ∃ k : Nat, (k : Int) = e + ((q : Int) - 1023) + 1023 := ⟨(e + ((q : Int) - 1023) + 1023).toNat, by omega⟩
  have b3 : bits .or .u64 (f : Int) ((e + ((q : Int) - 1023) + 1023) * 4503599627370496) = ((k * 4503599627370496 + f : Nat) : Int) := by rw [← hk]; exact or_exp f k hf (by omega)
  obtain ⟨a, ha⟩ : ∃ a, a = 1074 := ⟨_, rfl⟩
  have hz := ldexp_law x q f k e 4607182418800017408 a hx hf (by omega) (by omega) (by omega) (by omega) (by decide) (V_1074 a ha) (by omega)
  clear ha
  have hm : ∀ w : World, (binOp .mul 64 (.float .f64 4607182418800017408) (.float .f64 (k * 4503599627370496 + f))).run Tryz.prog w = .ok (.float .f64 (RN (V x) e)) w := fun w => run_float_arith w .mul 64 .f64 _ _ _ hz
  obtain ⟨z, hzz⟩ : ∃ z, z = RN (V x) e := ⟨_, rfl⟩
  rw [← hzz] at hm ⊢
  obtain ⟨y, hy⟩ : ∃ y, y = k * 4503599627370496 + f := ⟨_, rfl⟩
  rw [← hy] at hm b3
  have t1 : decide (e + ((q : Int) - 1023) < -1075) = false := decide_eq_false (by omega)
  have t2 : decide (1023 < e + ((q : Int) - 1023)) = false := decide_eq_false (by omega)
  have t3 : decide (e + ((q : Int) - 1023) < -1022) = false := decide_eq_false (by omega)
  clear hx hk hz hzz hy
  go_enter Tryz.func120, Tryz.ntmps120
  go_wp2_with (first | (go_at_call 53; refine (isinf_zero x (by omega) _).mono ?_; rintro e2 w' ⟨rfl, rfl⟩; rw [HI.out]) | (go_at_call 52; refine (isnan_any x (by omega) _).mono ?_; rintro e2 w' ⟨rfl, rfl⟩; rw [HN.out]) | (go_at_call 131; refine (norm_any x (by omega) (by omega) _).mono ?_; rintro e2 w' ⟨rfl, rfl⟩))
  go_ret
  exact ⟨rfl, But.refl _ _⟩
set_option linter.unusedSimpArgs false in
set_option maxRecDepth 100000 in
set_option maxHeartbeats 2000000 in
theorem ldexp_low (x q f : Nat) (e : Int) (hx : x = q * 4503599627370496 + f) (hf : f < 4503599627370496) (hq : 1023 ≤ q) (hq2 : q ≤ 2046) (he1 : -10000 ≤ e) (he2 : e ≤ 10000) (h1 : -1075 ≤ e + ((q : Int) - 1023)) (h2 : e + ((q : Int) - 1023) < -1022) (W : World) : Calls Tryz.prog 120 #[.float .f64 x, .int .i64 e] W fun r w' => r = .returned (.float .f64 (RN (V x) e)) ∧ But [] W w' := by
  have hxl : 4607182418800017408 ≤ x := by omega
  have hxu : x < 9218868437227405312 := by omega
  have o1 := ord_pos (a := x) (b := 0) (by omega) (by omega)
  have o2 := ord_pos (a := x) (b := 4503599627370496) (by omega) (by omega)
  rw [cmp_gt (by omega)] at o1 o2
  have HI := Lib.hid (show decide (x = INF) = false from decide_eq_false (by simp only [INF]; omega))
  have HN := Lib.hid (show nan x = false from decide_eq_false (by simp only [INF, SG]; omega))
  have b1 := and_2047 q (by omega)
  have b2 := andNot_inf x (by omega)
  have e1 : (x : Int) / 4503599627370496 = (q : Int) := by omega
  have e2 : x % 4503599627370496 = f := by omega
  rw [e2] at b2
  clear e2
  obtain ⟨k, hk⟩ : ∃ k : Nat, (k : Int) = e + ((q : Int) - 1023) + 53 + 1023 := ⟨(e + ((q : Int) - 1023) + 53 + 1023).toNat, by omega⟩
  have b3 : bits .or .u64 (f : Int) ((e + ((q : Int) - 1023) + 53 + 1023) * 4503599627370496) = ((k * 4503599627370496 + f : Nat) : Int) := by rw [← hk]; exact or_exp f k hf (by omega)
  obtain ⟨a, ha⟩ : ∃ a, a = 1021 := ⟨_, rfl⟩
  have hz := ldexp_law x q f k e 4368491638549381120 a hx hf (by omega) (by omega) (by omega) (by omega) (by decide) (V_1021 a ha) (by omega)
  clear ha
  have hm : ∀ w : World, (binOp .mul 64 (.float .f64 4368491638549381120) (.float .f64 (k * 4503599627370496 + f))).run Tryz.prog w = .ok (.float .f64 (RN (V x) e)) w := fun w => run_float_arith w .mul 64 .f64 _ _ _ hz
  obtain ⟨z, hzz⟩ : ∃ z, z = RN (V x) e := ⟨_, rfl⟩
  rw [← hzz] at hm ⊢
  obtain ⟨y, hy⟩ : ∃ y, y = k * 4503599627370496 + f := ⟨_, rfl⟩
  rw [← hy] at hm b3
  have t1 : decide (e + ((q : Int) - 1023) < -1075) = false := decide_eq_false (by omega)
  have t2 : decide (1023 < e + ((q : Int) - 1023)) = false := decide_eq_false (by omega)
  have t3 : decide (e + ((q : Int) - 1023) < -1022) = true := decide_eq_true (by omega)
  clear hx hk hz hzz hy
  go_enter Tryz.func120, Tryz.ntmps120
  go_wp2_with (first | (go_at_call 53; refine (isinf_zero x (by omega) _).mono ?_; rintro e2 w' ⟨rfl, rfl⟩; rw [HI.out]) | (go_at_call 52; refine (isnan_any x (by omega) _).mono ?_; rintro e2 w' ⟨rfl, rfl⟩; rw [HN.out]) | (go_at_call 131; refine (norm_any x (by omega) (by omega) _).mono ?_; rintro e2 w' ⟨rfl, rfl⟩))
  go_ret
  exact ⟨rfl, But.refl _ _⟩
set_option linter.unusedSimpArgs false in
set_option maxRecDepth 100000 in
set_option maxHeartbeats 2000000 in
theorem ldexp_under (x q f : Nat) (e : Int) (hx : x = q * 4503599627370496 + f) (hf : f < 4503599627370496) (hq : 1023 ≤ q) (hq2 : q ≤ 2046) (he1 : -10000 ≤ e) (he2 : e ≤ 10000) (h1 : e + ((q : Int) - 1023) < -1075) (W : World) : Calls Tryz.prog 120 #[.float .f64 x, .int .i64 e] W fun r w' => r = .returned (.float .f64 (0)) ∧ But [] W w' := by
  have hxl : 4607182418800017408 ≤ x := by omega
  have hxu : x < 9218868437227405312 := by omega
  have o1 := ord_pos (a := x) (b := 0) (by omega) (by omega)
  have o2 := ord_pos (a := x) (b := 4503599627370496) (by omega) (by omega)
  rw [cmp_gt (by omega)] at o1 o2
  have HI := Lib.hid (show decide (x = INF) = false from decide_eq_false (by simp only [INF]; omega))
  have HN := Lib.hid (show nan x = false from decide_eq_false (by simp only [INF, SG]; omega))
  have b1 := and_2047 q (by omega)
  have b2 := andNot_inf x (by omega)
  have e1 : (x : Int) / 4503599627370496 = (q : Int) := by omega
  have e2 : x % 4503599627370496 = f := by omega
  rw [e2] at b2
  clear e2
  have t1 : decide (e + ((q : Int) - 1023) < -1075) = true := decide_eq_true (by omega)
  have HS := Lib.hid (show sgw x = 0 by unfold sgw; rw [if_neg (by unfold SG; omega)])
  clear hx
  go_enter Tryz.func120, Tryz.ntmps120
  go_wp2_with (first | (go_at_call 53; refine (isinf_zero x (by omega) _).mono ?_; rintro e2 w' ⟨rfl, rfl⟩; rw [HI.out]) | (go_at_call 52; refine (isnan_any x (by omega) _).mono ?_; rintro e2 w' ⟨rfl, rfl⟩; rw [HN.out]) | (go_at_call 131; refine (norm_any x (by omega) (by omega) _).mono ?_; rintro e2 w' ⟨rfl, rfl⟩) | (go_at_call 101; refine (copysign_any 0 x (by omega) (by omega) _).mono ?_; rintro e2 w' ⟨rfl, rfl⟩; rw [HS.out]))
  go_ret
  exact ⟨rfl, But.refl _ _⟩
set_option linter.unusedSimpArgs false in
set_option maxRecDepth 100000 in
set_option maxHeartbeats 2000000 in
theorem ldexp_over (x q f : Nat) (e : Int) (hx : x = q * 4503599627370496 + f) (hf : f < 4503599627370496) (hq : 1023 ≤ q) (hq2 : q ≤ 2046) (he1 : -10000 ≤ e) (he2 : e ≤ 10000) (h1 : 1023 < e + ((q : Int) - 1023)) (W : World) : Calls Tryz.prog 120 #[.float .f64 x, .int .i64 e] W fun r w' => r = .returned (.float .f64 (9218868437227405312)) ∧ But [] W w' := by
  have hxl : 4607182418800017408 ≤ x := by omega
  have hxu : x < 9218868437227405312 := by omega
  have o1 := ord_pos (a := x) (b := 0) (by omega) (by omega)
  have o2 := ord_pos (a := x) (b := 4503599627370496) (by omega) (by omega)
  rw [cmp_gt (by omega)] at o1 o2
  have HI := Lib.hid (show decide (x = INF) = false from decide_eq_false (by simp only [INF]; omega))
  have HN := Lib.hid (show nan x = false from decide_eq_false (by simp only [INF, SG]; omega))
  have b1 := and_2047 q (by omega)
  have b2 := andNot_inf x (by omega)
  have e1 : (x : Int) / 4503599627370496 = (q : Int) := by omega
  have e2 : x % 4503599627370496 = f := by omega
  rw [e2] at b2
  clear e2
  have t1 : decide (e + ((q : Int) - 1023) < -1075) = false := decide_eq_false (by omega)
  have t2 : decide (1023 < e + ((q : Int) - 1023)) = true := decide_eq_true (by omega)
  clear hx
  go_enter Tryz.func120, Tryz.ntmps120
  go_wp2_with (first | (go_at_call 53; refine (isinf_zero x (by omega) _).mono ?_; rintro e2 w' ⟨rfl, rfl⟩; rw [HI.out]) | (go_at_call 52; refine (isnan_any x (by omega) _).mono ?_; rintro e2 w' ⟨rfl, rfl⟩; rw [HN.out]) | (go_at_call 131; refine (norm_any x (by omega) (by omega) _).mono ?_; rintro e2 w' ⟨rfl, rfl⟩) | (go_at_call 78; refine (inf_pos _).mono ?_; rintro e2 w' ⟨rfl, rfl⟩))
  go_ret
  exact ⟨rfl, But.refl _ _⟩

set_option linter.unusedSimpArgs false in
set_option maxRecDepth 100000 in
set_option maxHeartbeats 2000000 in
theorem ldexp_zero (e : Int) (W : World) : Calls Tryz.prog 120 #[.float .f64 0, .int .i64 e] W fun r w' => r = .returned (.float .f64 0) ∧ But [] W w' := by
  have o1 := ord_pos (a := 0) (b := 0) (by omega) (by omega)
  rw [cmp_eq rfl] at o1
  go_enter Tryz.func120, Tryz.ntmps120
  go_wp2_with fail
  go_ret
  exact ⟨rfl, But.refl _ _⟩
/-- The float of a whole number. -/
theorem of_int (n : Nat) : floatOfInt .f64 (n : Int) = RN n 1074 := by
  show Ieee.double.write (.number (decide ((n : Int) < 0)) (n : Int).natAbs 0) = _
  rw [write_number, decide_eq_false (by omega)]
  unfold wd
  rw [if_neg (by decide), Nat.zero_add]
  rfl
theorem of_int_bd (n : Nat) (h0 : n ≠ 0) (hn : n < 72057594037927936) : 4607182418800017408 ≤ RN n 1074 ∧ RN n 1074 ≤ 4859383997932765184 := by
  obtain ⟨l1, l1'⟩ := (Nat.log2_eq_iff h0).1 rfl
  have l2 : n.log2 < 56 := (Nat.log2_lt h0).2 (by rw [show (2 : Nat) ^ 56 = 72057594037927936 by decide]; exact hn)
  have hb : bnd n 1074 = 1022 + n.log2 := by unfold bnd; omega
  unfold RN
  rw [if_neg h0, hb, cut_eq]
  generalize n.log2 = l at *
  have h52 : (2 : Nat) ^ 52 = 4503599627370496 := by decide
  have key : ∀ N c : Nat, c ≤ 1 → 4503599627370496 ≤ N → N < 9007199254740992 → 4607182418800017408 ≤ min ((1022 + l) * ON + (N + c)) INF ∧ min ((1022 + l) * ON + (N + c)) INF ≤ 4859383997932765184 := by
    intro N c hc h1 h2
    unfold ON INF
    omega
  by_cases hl : l ≤ 52
  · rw [show ((1074 : Int) - ((1022 + l : Nat) : Int)).toNat = 52 - l by omega, show (((1022 + l : Nat) : Int) - 1074).toNat = 0 by omega]
    refine key _ _ (by split <;> omega) ?_ ?_
    · rw [Nat.pow_zero, Nat.div_one]
      have := Nat.mul_le_mul_right (2 ^ (52 - l)) l1
      rw [← Nat.pow_add, show l + (52 - l) = 52 by omega, h52] at this
      exact this
    · rw [Nat.pow_zero, Nat.div_one]
      have := Nat.mul_lt_mul_of_pos_right l1' (Nat.two_pow_pos (52 - l))
      rw [← Nat.pow_add, show l + 1 + (52 - l) = 53 by omega, show (2 : Nat) ^ 53 = 9007199254740992 by decide] at this
      exact this
  · rw [show ((1074 : Int) - ((1022 + l : Nat) : Int)).toNat = 0 by omega, show (((1022 + l : Nat) : Int) - 1074).toNat = l - 52 by omega, Nat.pow_zero, Nat.mul_one]
    refine key _ _ (by split <;> omega) ?_ ?_
    · rw [Nat.le_div_iff_mul_le (Nat.two_pow_pos _), ← h52, ← Nat.pow_add, show 52 + (l - 52) = l by omega]
      exact l1
    · rw [Nat.div_lt_iff_lt_mul (Nat.two_pow_pos _), show (9007199254740992 : Nat) = 2 ^ 53 by decide, ← Nat.pow_add, show 53 + (l - 52) = l + 1 by omega]
      exact l1'
theorem pow_bd {n a b c : Nat} (h : n < 2 ^ a) (hc : a + b ≤ c) : n * 2 ^ b < 2 ^ c := by
  have h1 := Nat.mul_lt_mul_of_pos_right h (Nat.two_pow_pos b)
  rw [← Nat.pow_add] at h1
  exact Nat.lt_of_lt_of_le h1 (Nat.pow_le_pow_right (by omega) hc)
set_option linter.unusedSimpArgs false in
set_option maxRecDepth 100000 in
set_option maxHeartbeats 2000000 in
theorem rldexp_any (n : Nat) (hn : n < 72057594037927936) (e : Int) (he1 : -10000 ≤ e) (he2 : e ≤ 10000) (W : World) : Calls Tryz.prog 100 #[.float .f64 (RN n 1074), .int .i64 e] W fun r w' => (∃ z, r = .returned (.float .f64 z) ∧ z < 9223372036854775808) ∧ But [] W w' := by
  have hk : Calls Tryz.prog 120 #[.float .f64 (RN n 1074), .int .i64 e] W fun r w' => (∃ z, r = .returned (.float .f64 z) ∧ z < 9223372036854775808) ∧ But [] W w' := by
    by_cases h0 : n = 0
    · rw [h0, RN_zero]
      exact (ldexp_zero e W).mono fun r w' h => ⟨⟨0, h.1, by omega⟩, h.2⟩
    · obtain ⟨b1, b2⟩ := of_int_bd n h0 hn
      generalize RN n 1074 = x at *
      have hI : ∀ m p, RN m p ≤ 9218868437227405312 := RN_le
      have hx : x = x / 4503599627370496 * 4503599627370496 + x % 4503599627370496 := by omega
      by_cases c1 : e + (((x / 4503599627370496 : Nat) : Int) - 1023) < -1075
      · exact (ldexp_under x _ _ e hx (by omega) (by omega) (by omega) he1 he2 c1 W).mono fun r w' h => ⟨⟨_, h.1, by omega⟩, h.2⟩
      · by_cases c2 : 1023 < e + (((x / 4503599627370496 : Nat) : Int) - 1023)
        · exact (ldexp_over x _ _ e hx (by omega) (by omega) (by omega) he1 he2 c2 W).mono fun r w' h => ⟨⟨_, h.1, by omega⟩, h.2⟩
        · by_cases c3 : e + (((x / 4503599627370496 : Nat) : Int) - 1023) < -1022
          · exact (ldexp_low x _ _ e hx (by omega) (by omega) (by omega) he1 he2 (by omega) c3 W).mono fun r w' h => ⟨⟨_, h.1, Nat.lt_of_le_of_lt (hI _ _) (by omega)⟩, h.2⟩
          · exact (ldexp_mid x _ _ e hx (by omega) (by omega) (by omega) he1 he2 (by omega) (by omega) W).mono fun r w' h => ⟨⟨_, h.1, Nat.lt_of_le_of_lt (hI _ _) (by omega)⟩, h.2⟩
  generalize RN n 1074 = x at *
  go_enter Tryz.func100, Tryz.ntmps100
  go_wp2_with (go_at_call 120; refine hk.mono ?_; rintro e2 w' ⟨⟨z, rfl, hz⟩, hb⟩)
  go_ret
  exact ⟨⟨z, rfl, hz⟩, hb⟩
set_option linter.unusedSimpArgs false in
set_option maxRecDepth 100000 in
set_option maxHeartbeats 2000000 in
theorem rldexp_right (n : Nat) (hn : n < 9007199254740992) (e : Int) (he1 : -1074 ≤ e) (he2 : e ≤ 1023) (hv : n * 2 ^ (e + 1074).toNat < 2 ^ TOP) (W : World) : Calls Tryz.prog 100 #[.float .f64 (RN n 1074), .int .i64 e] W fun r w' => r = .returned (.float .f64 (RN n (e + 1074))) ∧ But [] W w' := by
  have hk : Calls Tryz.prog 120 #[.float .f64 (RN n 1074), .int .i64 e] W fun r w' => r = .returned (.float .f64 (RN n (e + 1074))) ∧ But [] W w' := by
    by_cases h0 : n = 0
    · rw [h0, RN_zero, RN_zero]
      exact ldexp_zero e W
    · obtain ⟨b1, b2⟩ := of_int_bd n h0 (by omega)
      obtain ⟨K, hK⟩ : ∃ K : Nat, K = 1074 := ⟨_, rfl⟩
      have hvx : V (RN n 1074) = n * 2 ^ K := by
        have h1 := RN_scale n K 1074
        rw [show (1074 : Int) - (K : Int) = 0 by omega] at h1
        rw [← h1]
        exact (RN_exact n K hn (pow_bd (a := 53) (by rw [show (2 : Nat) ^ 53 = 9007199254740992 by decide]; exact hn) (by have : TOP = 2098 := rfl; omega))).2
      have hz : RN n (e + 1074) = RN (V (RN n 1074)) e := by
        have h1 := RN_scale n K (e + 1074)
        rw [show e + 1074 - (K : Int) = e by omega] at h1
        rw [hvx, h1]
      rw [hz]
      clear hz
      generalize RN n 1074 = x at *
      have hx : x = x / 4503599627370496 * 4503599627370496 + x % 4503599627370496 := by omega
      have c2 : e + (((x / 4503599627370496 : Nat) : Int) - 1023) ≤ 1023 := by
        refine Classical.byContradiction fun hc => ?_
        have y2 : V x = (4503599627370496 + x % 4503599627370496) * 2 ^ (x / 4503599627370496 - 1) := by
          have h3 := V_mk (s := x / 4503599627370496 - 1) (M := 4503599627370496 + x % 4503599627370496) (by unfold ON; omega) (by unfold ON; omega)
          rw [show (x / 4503599627370496 - 1) * ON + (4503599627370496 + x % 4503599627370496) = x by unfold ON; omega] at h3
          exact h3
        have h4 : 2 ^ 52 * 2 ^ (x / 4503599627370496 - 1) ≤ n * 2 ^ K := by
          rw [← hvx, y2]
          exact Nat.mul_le_mul_right _ (by rw [show (2 : Nat) ^ 52 = 4503599627370496 by decide]; omega)
        have h5 := Nat.mul_le_mul_right (2 ^ (e + 1074).toNat) h4
        have h6 := Nat.mul_lt_mul_of_pos_right hv (Nat.two_pow_pos K)
        rw [Nat.mul_right_comm] at h6
        have h7 := Nat.lt_of_le_of_lt h5 h6
        rw [← Nat.pow_add, ← Nat.pow_add, ← Nat.pow_add] at h7
        have h8 := (Nat.pow_lt_pow_iff_right (a := 2) (by omega)).1 h7
        have : TOP = 2098 := rfl
        omega
      by_cases c3 : e + (((x / 4503599627370496 : Nat) : Int) - 1023) < -1022
      · exact ldexp_low x _ _ e hx (by omega) (by omega) (by omega) (by omega) (by omega) (by omega) c3 W
      · exact ldexp_mid x _ _ e hx (by omega) (by omega) (by omega) (by omega) (by omega) (by omega) c2 W
  generalize RN n 1074 = x at *
  generalize RN n (e + 1074) = z at *
  clear hv
  go_enter Tryz.func100, Tryz.ntmps100
  go_wp2_with (go_at_call 120; refine hk.mono ?_; rintro e2 w' ⟨rfl, hb⟩)
  go_ret
  exact ⟨rfl, hb⟩
end Go.Proofs.YtnghppgpdeghfaaGreatDoor
namespace Go.Proofs.YtnghppgpdeghfaaGreatDoor
open Go.RowKit Go.Proofs.YtnghppgpdeghfaaGreatDoor.Fl Go.Proofs.YtnghppgpdeghfaaGreatDoor.Pt Go.Proofs.YtnghppgpdeghfaaGreatDoor.Tx

theorem seq_dec (X T : List UInt8) (S : ByteArray) (h : S.data.toList = T) : ((str X).toList == S.toList) = decide (X = T) := by
  have hS : S = str T := ByteArray.ext (by rw [← h]; simp [str])
  rw [hS, toList_str, toList_str]
  by_cases e : X = T
  · simp [e]
  · simp [e]
theorem hexV_lt0 : ∀ (l : List UInt8) (a : Nat), (∀ c ∈ l, isH c = true) → hexV a l < (a + 1) * 16 ^ l.length
  | [], a, _ => by show a < (a + 1) * 16 ^ 0; rw [Nat.pow_zero, Nat.mul_one]; exact Nat.lt_succ_self a
  | c :: l, a, h => by
    have h1 := hexV_lt0 l (16 * a + hv c) fun d hd => h d (by simp [hd])
    have h2 := hv_lt (h c (by simp))
    show hexV (16 * a + hv c) l < _
    refine Nat.lt_of_lt_of_le h1 ?_
    rw [List.length_cons, Nat.pow_succ, Nat.mul_comm (16 ^ l.length) 16, ← Nat.mul_assoc]
    exact Nat.mul_le_mul_right _ (by omega)
theorem hexV_lt (l : List UInt8) (h : ∀ c ∈ l, isH c = true) (hl : l.length ≤ 14) : hexV 0 l < 72057594037927936 := by
  have h1 := hexV_lt0 l 0 h
  rw [Nat.zero_add, Nat.one_mul] at h1
  exact Nat.lt_of_lt_of_le h1 (Nat.le_trans (Nat.pow_le_pow_right (by decide) hl) (by decide))
theorem decV_lt0 : ∀ (l : List UInt8) (a : Nat), (∀ c ∈ l, isD c = true) → decV a l < (a + 1) * 10 ^ l.length
  | [], a, _ => by show a < (a + 1) * 10 ^ 0; rw [Nat.pow_zero, Nat.mul_one]; exact Nat.lt_succ_self a
  | c :: l, a, h => by
    have h1 := decV_lt0 l (10 * a + (c.toNat - 48)) fun d hd => h d (by simp [hd])
    have h2 := h c (by simp)
    unfold isD at h2
    simp at h2
    show decV (10 * a + (c.toNat - 48)) l < _
    refine Nat.lt_of_lt_of_le h1 ?_
    rw [List.length_cons, Nat.pow_succ, Nat.mul_comm (10 ^ l.length) 10, ← Nat.mul_assoc]
    exact Nat.mul_le_mul_right _ (by omega)
theorem decV_lt (l : List UInt8) (h : ∀ c ∈ l, isD c = true) (hl : l.length ≤ 4) : decV 0 l < 10000 := by
  have h1 := decV_lt0 l 0 h
  rw [Nat.zero_add, Nat.one_mul] at h1
  exact Nat.lt_of_lt_of_le h1 (Nat.le_trans (Nat.pow_le_pow_right (by decide) hl) (by decide))
theorem take_snoc {L : List UInt8} {k : Nat} {c : UInt8} (hc : L[k]? = some c) : L.take (k + 1) = L.take k ++ [c] := by
  obtain ⟨h, e⟩ := List.getElem?_eq_some_iff.1 hc
  rw [List.take_succ_eq_append_getElem h, e]
theorem hex_step {M : List UInt8} {k : Nat} {c : UInt8} (hM : ∀ c ∈ M, isH c = true) (hl : M.length ≤ 14) (hlt : k < M.length) (hc : M[k]? = some c) :
    isH c = true ∧ hexV 0 (M.take (k + 1)) = 16 * hexV 0 (M.take k) + hv c ∧ hexV 0 (M.take k) < 4503599627370496 ∧ hv c < 16 := by
  have h1 : isH c = true := hM c (List.mem_of_getElem? hc)
  refine ⟨h1, by rw [take_snoc hc, hexV_snoc], ?_, hv_lt h1⟩
  have h2 := hexV_lt0 (M.take k) 0 fun d hd => hM d (List.mem_of_mem_take hd)
  rw [List.length_take, Nat.zero_add, Nat.one_mul] at h2
  exact Nat.lt_of_lt_of_le h2 (Nat.le_trans (Nat.pow_le_pow_right (n := 16) (by decide) (show min k M.length ≤ 13 by omega)) (by decide))
theorem dec_step {E : List UInt8} {k : Nat} {c : UInt8} (hE : ∀ c ∈ E, isD c = true) (hl : E.length ≤ 4) (hlt : k < E.length) (hc : E[k]? = some c) :
    48 ≤ c.toNat ∧ c.toNat ≤ 57 ∧ decV 0 (E.take (k + 1)) = 10 * decV 0 (E.take k) + (c.toNat - 48) ∧ decV 0 (E.take k) < 10000 := by
  have h1 : isD c = true := hE c (List.mem_of_getElem? hc)
  unfold isD at h1
  simp at h1
  refine ⟨h1.1, h1.2, by rw [take_snoc hc, decV_snoc], ?_⟩
  exact decV_lt _ (fun d hd => hE d (List.mem_of_mem_take hd)) (by rw [List.length_take]; omega)
set_option linter.unusedSimpArgs false in
set_option maxRecDepth 100000 in
set_option maxHeartbeats 4000000 in
theorem value_pa (M E : List UInt8) (hM : ∀ c ∈ M, isH c = true) (hE : ∀ c ∈ E, isD c = true) (hl1 : M.length ≤ 14) (hl2 : E.length ≤ 4) (P : Nat → Prop) (hL : ∀ W, Calls Tryz.prog 100 #[.float .f64 (RN (hexV 0 M) 1074), .int .i64 ((decV 0 E : Int))] W fun r w' => (∃ z, r = .returned (.float .f64 z) ∧ z < 9223372036854775808 ∧ P z) ∧ But [] W w') (W : World) :
    Calls Tryz.prog 80 #[.bool false, .string (str M), .bool false, .string (str E)] W fun r w' => (∃ z, r = .returned (.tuple #[.float .f64 (z), .bool (decide (fl (z) = ([48, 120] ++ (M ++ 112 :: E))))]) ∧ z < 9223372036854775808 ∧ P z) ∧ But [] W w' := by
  have q1 : decide ((14 : Int) < (M.length : Int)) = false := decide_eq_false (by omega)
  have q2 : decide ((4 : Int) < (E.length : Int)) = false := decide_eq_false (by omega)
  have s1 : (str M).size = M.length := rfl
  have s2 : (str E).size = E.length := rfl
  obtain ⟨nn, hnn⟩ : ∃ nn, nn = hexV 0 M := ⟨_, rfl⟩
  obtain ⟨pp, hpp⟩ : ∃ pp, pp = decV 0 E := ⟨_, rfl⟩
  rw [← hnn, ← of_int, ← hpp] at hL
  have hn2 := hexV_lt M hM hl1
  have hp2 := decV_lt E hE hl2
  rw [← hnn] at hn2
  rw [← hpp] at hp2
  have HL := Lib.hid hL

  have HNN := Lib.hid hnn
  have HPP := Lib.hid hpp
  clear hL hnn hpp
  go_enter Tryz.func80, Tryz.ntmps80
  go_wp2_with fail
  go_loopw [10, 12] (fun n i wr => ∃ k : Nat, k ≤ M.length ∧ i = .int .i64 (k : Int) ∧ n = .int .u64 (hexV 0 (M.take k) : Int) ∧ But [] W wr) (fun _ i _ => M.length - (intOf i).toNat)
  case atStart => exact ⟨0, Nat.zero_le _, rfl, rfl, But.refl _ _⟩
  case round =>
    obtain ⟨k, hk, rfl, rfl, hb⟩ := hrel
    by_cases hlt : k < M.length
    · have t1 : decide ((k : Int) < (M.length : Int)) = true := decide_eq_true (Int.ofNat_lt.2 hlt)
      obtain ⟨c, hc⟩ : ∃ c, M[k]? = some c := ⟨_, List.getElem?_eq_getElem hlt⟩
      have hget : ∀ hp, (str M)[k]'hp = c := fun hp => by
        have := List.getElem?_eq_getElem hlt
        rw [hc] at this
        exact (Option.some.inj this).symm
      obtain ⟨hH, hV, hB, hV16⟩ := hex_step hM hl1 hlt hc
      have HV := Lib.hid hV
      generalize hexV 0 (M.take k) = a at *
      clear hV hc
      go_wp2_with (go_at_call 99; refine (rhexv c hH _).mono ?_; rintro e w1 ⟨rfl, hw1⟩; rw [hw1]; clear hw1 w1)
      exact ⟨⟨k + 1, by omega, by go_num, congrArg (Value.int .u64) (by rw [HV.out]; omega), hb⟩, by simp [intOf]; omega⟩
    · obtain rfl : k = M.length := Nat.le_antisymm hk (Nat.le_of_not_lt hlt)
      have t1 : decide ((M.length : Int) < (M.length : Int)) = false := decide_eq_false (Int.lt_irrefl _)
      rw [List.take_length, ← HNN.out]
      go_wp2_with fail
      go_loopw [11, 13] (fun n i wr => ∃ k : Nat, k ≤ E.length ∧ i = .int .i64 (k : Int) ∧ n = .int .i64 (decV 0 (E.take k) : Int) ∧ But [] W wr) (fun _ i _ => E.length - (intOf i).toNat)
      case atStart => exact ⟨0, Nat.zero_le _, rfl, rfl, hb⟩
      case round =>
        obtain ⟨k, hk, rfl, rfl, hb⟩ := hrel
        by_cases hlt : k < E.length
        · have t2 : decide ((k : Int) < (E.length : Int)) = true := decide_eq_true (Int.ofNat_lt.2 hlt)
          obtain ⟨c, hc⟩ : ∃ c, E[k]? = some c := ⟨_, List.getElem?_eq_getElem hlt⟩
          have hget : ∀ hp, (str E)[k]'hp = c := fun hp => by
            have := List.getElem?_eq_getElem hlt
            rw [hc] at this
            exact (Option.some.inj this).symm
          obtain ⟨hB1, hB2, hV, hB⟩ := dec_step hE hl2 hlt hc
          have HV := Lib.hid hV
          generalize decV 0 (E.take k) = a at *
          clear hV hc
          go_wp2_with fail
          exact ⟨⟨k + 1, by omega, by go_num, congrArg (Value.int .i64) (by rw [HV.out]; omega), hb⟩, by simp [intOf]; omega⟩
        · obtain rfl : k = E.length := Nat.le_antisymm hk (Nat.le_of_not_lt hlt)
          have t2 : decide ((E.length : Int) < (E.length : Int)) = false := decide_eq_false (Int.lt_irrefl _)
          rw [List.take_length, ← HPP.out]
          go_wp2_with (first | (go_at_call 100; refine (HL.out _).mono ?_; rintro e2 w1 ⟨⟨z, rfl, hz, hPz⟩, hb1⟩) | (go_at_call 102; refine (reffloat_any _ (by omega) _).mono ?_; rintro e2 w2 ⟨rfl, hb2⟩))
          all_goals first | (exfalso; omega) | skip
          refine bodyPost_ret (v := .tuple #[.float .f64 (z), .bool ((str (fl (z))).toList == ({ data := #[48, 120] } ++ str M ++ { data := #[112] } ++ str E).toList)]) ((results_tmp2 (fn := Tryz.f80) rfl _ _ _).trans rfl) rfl ⟨⟨z, congrArg (fun b => Ending.returned (.tuple #[.float .f64 (z), .bool b])) (seq_dec _ _ _ (by simp [str])), hz, hPz⟩, (hb.trans hb1).trans hb2⟩
set_option linter.unusedSimpArgs false in
set_option maxRecDepth 100000 in
set_option maxHeartbeats 4000000 in
theorem value_pb (M E : List UInt8) (hM : ∀ c ∈ M, isH c = true) (hE : ∀ c ∈ E, isD c = true) (hl1 : M.length ≤ 14) (hl2 : E.length ≤ 4) (P : Nat → Prop) (hL : ∀ W, Calls Tryz.prog 100 #[.float .f64 (RN (hexV 0 M) 1074), .int .i64 (-(decV 0 E : Int))] W fun r w' => (∃ z, r = .returned (.float .f64 z) ∧ z < 9223372036854775808 ∧ P z) ∧ But [] W w') (W : World) :
    Calls Tryz.prog 80 #[.bool false, .string (str M), .bool true, .string (str E)] W fun r w' => (∃ z, r = .returned (.tuple #[.float .f64 (z), .bool (decide (fl (z) = ([48, 120] ++ (M ++ 112 :: 45 :: E))))]) ∧ z < 9223372036854775808 ∧ P z) ∧ But [] W w' := by
  have q1 : decide ((14 : Int) < (M.length : Int)) = false := decide_eq_false (by omega)
  have q2 : decide ((4 : Int) < (E.length : Int)) = false := decide_eq_false (by omega)
  have s1 : (str M).size = M.length := rfl
  have s2 : (str E).size = E.length := rfl
  obtain ⟨nn, hnn⟩ : ∃ nn, nn = hexV 0 M := ⟨_, rfl⟩
  obtain ⟨pp, hpp⟩ : ∃ pp, pp = decV 0 E := ⟨_, rfl⟩
  rw [← hnn, ← of_int, ← hpp] at hL
  have hn2 := hexV_lt M hM hl1
  have hp2 := decV_lt E hE hl2
  rw [← hnn] at hn2
  rw [← hpp] at hp2
  have HL := Lib.hid hL

  have HNN := Lib.hid hnn
  have HPP := Lib.hid hpp
  clear hL hnn hpp
  go_enter Tryz.func80, Tryz.ntmps80
  go_wp2_with fail
  go_loopw [10, 12] (fun n i wr => ∃ k : Nat, k ≤ M.length ∧ i = .int .i64 (k : Int) ∧ n = .int .u64 (hexV 0 (M.take k) : Int) ∧ But [] W wr) (fun _ i _ => M.length - (intOf i).toNat)
  case atStart => exact ⟨0, Nat.zero_le _, rfl, rfl, But.refl _ _⟩
  case round =>
    obtain ⟨k, hk, rfl, rfl, hb⟩ := hrel
    by_cases hlt : k < M.length
    · have t1 : decide ((k : Int) < (M.length : Int)) = true := decide_eq_true (Int.ofNat_lt.2 hlt)
      obtain ⟨c, hc⟩ : ∃ c, M[k]? = some c := ⟨_, List.getElem?_eq_getElem hlt⟩
      have hget : ∀ hp, (str M)[k]'hp = c := fun hp => by
        have := List.getElem?_eq_getElem hlt
        rw [hc] at this
        exact (Option.some.inj this).symm
      obtain ⟨hH, hV, hB, hV16⟩ := hex_step hM hl1 hlt hc
      have HV := Lib.hid hV
      generalize hexV 0 (M.take k) = a at *
      clear hV hc
      go_wp2_with (go_at_call 99; refine (rhexv c hH _).mono ?_; rintro e w1 ⟨rfl, hw1⟩; rw [hw1]; clear hw1 w1)
      exact ⟨⟨k + 1, by omega, by go_num, congrArg (Value.int .u64) (by rw [HV.out]; omega), hb⟩, by simp [intOf]; omega⟩
    · obtain rfl : k = M.length := Nat.le_antisymm hk (Nat.le_of_not_lt hlt)
      have t1 : decide ((M.length : Int) < (M.length : Int)) = false := decide_eq_false (Int.lt_irrefl _)
      rw [List.take_length, ← HNN.out]
      go_wp2_with fail
      go_loopw [11, 13] (fun n i wr => ∃ k : Nat, k ≤ E.length ∧ i = .int .i64 (k : Int) ∧ n = .int .i64 (decV 0 (E.take k) : Int) ∧ But [] W wr) (fun _ i _ => E.length - (intOf i).toNat)
      case atStart => exact ⟨0, Nat.zero_le _, rfl, rfl, hb⟩
      case round =>
        obtain ⟨k, hk, rfl, rfl, hb⟩ := hrel
        by_cases hlt : k < E.length
        · have t2 : decide ((k : Int) < (E.length : Int)) = true := decide_eq_true (Int.ofNat_lt.2 hlt)
          obtain ⟨c, hc⟩ : ∃ c, E[k]? = some c := ⟨_, List.getElem?_eq_getElem hlt⟩
          have hget : ∀ hp, (str E)[k]'hp = c := fun hp => by
            have := List.getElem?_eq_getElem hlt
            rw [hc] at this
            exact (Option.some.inj this).symm
          obtain ⟨hB1, hB2, hV, hB⟩ := dec_step hE hl2 hlt hc
          have HV := Lib.hid hV
          generalize decV 0 (E.take k) = a at *
          clear hV hc
          go_wp2_with fail
          exact ⟨⟨k + 1, by omega, by go_num, congrArg (Value.int .i64) (by rw [HV.out]; omega), hb⟩, by simp [intOf]; omega⟩
        · obtain rfl : k = E.length := Nat.le_antisymm hk (Nat.le_of_not_lt hlt)
          have t2 : decide ((E.length : Int) < (E.length : Int)) = false := decide_eq_false (Int.lt_irrefl _)
          rw [List.take_length, ← HPP.out]
          go_wp2_with (first | (go_at_call 100; refine (HL.out _).mono ?_; rintro e2 w1 ⟨⟨z, rfl, hz, hPz⟩, hb1⟩) | (go_at_call 102; refine (reffloat_any _ (by omega) _).mono ?_; rintro e2 w2 ⟨rfl, hb2⟩))
          all_goals first | (exfalso; omega) | skip
          refine bodyPost_ret (v := .tuple #[.float .f64 (z), .bool ((str (fl (z))).toList == ({ data := #[48, 120] } ++ str M ++ { data := #[112, 45] } ++ str E).toList)]) ((results_tmp2 (fn := Tryz.f80) rfl _ _ _).trans rfl) rfl ⟨⟨z, congrArg (fun b => Ending.returned (.tuple #[.float .f64 (z), .bool b])) (seq_dec _ _ _ (by simp [str])), hz, hPz⟩, (hb.trans hb1).trans hb2⟩
set_option linter.unusedSimpArgs false in
set_option maxRecDepth 100000 in
set_option maxHeartbeats 4000000 in
theorem value_na (M E : List UInt8) (hM : ∀ c ∈ M, isH c = true) (hE : ∀ c ∈ E, isD c = true) (hl1 : M.length ≤ 14) (hl2 : E.length ≤ 4) (P : Nat → Prop) (hL : ∀ W, Calls Tryz.prog 100 #[.float .f64 (RN (hexV 0 M) 1074), .int .i64 ((decV 0 E : Int))] W fun r w' => (∃ z, r = .returned (.float .f64 z) ∧ z < 9223372036854775808 ∧ P z) ∧ But [] W w') (W : World) :
    Calls Tryz.prog 80 #[.bool true, .string (str M), .bool false, .string (str E)] W fun r w' => (∃ z, r = .returned (.tuple #[.float .f64 (z + 9223372036854775808), .bool (decide (fl (z + 9223372036854775808) = 45 :: ([48, 120] ++ (M ++ 112 :: E))))]) ∧ z < 9223372036854775808 ∧ P z) ∧ But [] W w' := by
  have q1 : decide ((14 : Int) < (M.length : Int)) = false := decide_eq_false (by omega)
  have q2 : decide ((4 : Int) < (E.length : Int)) = false := decide_eq_false (by omega)
  have s1 : (str M).size = M.length := rfl
  have s2 : (str E).size = E.length := rfl
  obtain ⟨nn, hnn⟩ : ∃ nn, nn = hexV 0 M := ⟨_, rfl⟩
  obtain ⟨pp, hpp⟩ : ∃ pp, pp = decV 0 E := ⟨_, rfl⟩
  rw [← hnn, ← of_int, ← hpp] at hL
  have hn2 := hexV_lt M hM hl1
  have hp2 := decV_lt E hE hl2
  rw [← hnn] at hn2
  rw [← hpp] at hp2
  have HL := Lib.hid hL
  have HS := Lib.hid (show sgw 13830554455654793216 = 9223372036854775808 by decide)
  have HNN := Lib.hid hnn
  have HPP := Lib.hid hpp
  clear hL hnn hpp
  go_enter Tryz.func80, Tryz.ntmps80
  go_wp2_with fail
  go_loopw [10, 12] (fun n i wr => ∃ k : Nat, k ≤ M.length ∧ i = .int .i64 (k : Int) ∧ n = .int .u64 (hexV 0 (M.take k) : Int) ∧ But [] W wr) (fun _ i _ => M.length - (intOf i).toNat)
  case atStart => exact ⟨0, Nat.zero_le _, rfl, rfl, But.refl _ _⟩
  case round =>
    obtain ⟨k, hk, rfl, rfl, hb⟩ := hrel
    by_cases hlt : k < M.length
    · have t1 : decide ((k : Int) < (M.length : Int)) = true := decide_eq_true (Int.ofNat_lt.2 hlt)
      obtain ⟨c, hc⟩ : ∃ c, M[k]? = some c := ⟨_, List.getElem?_eq_getElem hlt⟩
      have hget : ∀ hp, (str M)[k]'hp = c := fun hp => by
        have := List.getElem?_eq_getElem hlt
        rw [hc] at this
        exact (Option.some.inj this).symm
      obtain ⟨hH, hV, hB, hV16⟩ := hex_step hM hl1 hlt hc
      have HV := Lib.hid hV
      generalize hexV 0 (M.take k) = a at *
      clear hV hc
      go_wp2_with (go_at_call 99; refine (rhexv c hH _).mono ?_; rintro e w1 ⟨rfl, hw1⟩; rw [hw1]; clear hw1 w1)
      exact ⟨⟨k + 1, by omega, by go_num, congrArg (Value.int .u64) (by rw [HV.out]; omega), hb⟩, by simp [intOf]; omega⟩
    · obtain rfl : k = M.length := Nat.le_antisymm hk (Nat.le_of_not_lt hlt)
      have t1 : decide ((M.length : Int) < (M.length : Int)) = false := decide_eq_false (Int.lt_irrefl _)
      rw [List.take_length, ← HNN.out]
      go_wp2_with fail
      go_loopw [11, 13] (fun n i wr => ∃ k : Nat, k ≤ E.length ∧ i = .int .i64 (k : Int) ∧ n = .int .i64 (decV 0 (E.take k) : Int) ∧ But [] W wr) (fun _ i _ => E.length - (intOf i).toNat)
      case atStart => exact ⟨0, Nat.zero_le _, rfl, rfl, hb⟩
      case round =>
        obtain ⟨k, hk, rfl, rfl, hb⟩ := hrel
        by_cases hlt : k < E.length
        · have t2 : decide ((k : Int) < (E.length : Int)) = true := decide_eq_true (Int.ofNat_lt.2 hlt)
          obtain ⟨c, hc⟩ : ∃ c, E[k]? = some c := ⟨_, List.getElem?_eq_getElem hlt⟩
          have hget : ∀ hp, (str E)[k]'hp = c := fun hp => by
            have := List.getElem?_eq_getElem hlt
            rw [hc] at this
            exact (Option.some.inj this).symm
          obtain ⟨hB1, hB2, hV, hB⟩ := dec_step hE hl2 hlt hc
          have HV := Lib.hid hV
          generalize decV 0 (E.take k) = a at *
          clear hV hc
          go_wp2_with fail
          exact ⟨⟨k + 1, by omega, by go_num, congrArg (Value.int .i64) (by rw [HV.out]; omega), hb⟩, by simp [intOf]; omega⟩
        · obtain rfl : k = E.length := Nat.le_antisymm hk (Nat.le_of_not_lt hlt)
          have t2 : decide ((E.length : Int) < (E.length : Int)) = false := decide_eq_false (Int.lt_irrefl _)
          rw [List.take_length, ← HPP.out]
          go_wp2_with (first | (go_at_call 100; refine (HL.out _).mono ?_; rintro e2 w1 ⟨⟨z, rfl, hz, hPz⟩, hb1⟩) | (go_at_call 101; refine (copysign_any z 13830554455654793216 hz (by omega) _).mono ?_; rintro e2 w' ⟨rfl, hw2⟩; rw [← hw2, HS.out]; clear hw2 w') | (go_at_call 102; refine (reffloat_any _ (by omega) _).mono ?_; rintro e2 w2 ⟨rfl, hb2⟩))
          all_goals first | (exfalso; omega) | skip
          refine bodyPost_ret (v := .tuple #[.float .f64 (z + 9223372036854775808), .bool ((str (fl (z + 9223372036854775808))).toList == ({ data := #[45] } ++ ({ data := #[48, 120] } ++ str M ++ { data := #[112] } ++ str E)).toList)]) ((results_tmp2 (fn := Tryz.f80) rfl _ _ _).trans rfl) rfl ⟨⟨z, congrArg (fun b => Ending.returned (.tuple #[.float .f64 (z + 9223372036854775808), .bool b])) (seq_dec _ _ _ (by simp [str])), hz, hPz⟩, (hb.trans hb1).trans hb2⟩
set_option linter.unusedSimpArgs false in
set_option maxRecDepth 100000 in
set_option maxHeartbeats 4000000 in
theorem value_nb (M E : List UInt8) (hM : ∀ c ∈ M, isH c = true) (hE : ∀ c ∈ E, isD c = true) (hl1 : M.length ≤ 14) (hl2 : E.length ≤ 4) (P : Nat → Prop) (hL : ∀ W, Calls Tryz.prog 100 #[.float .f64 (RN (hexV 0 M) 1074), .int .i64 (-(decV 0 E : Int))] W fun r w' => (∃ z, r = .returned (.float .f64 z) ∧ z < 9223372036854775808 ∧ P z) ∧ But [] W w') (W : World) :
    Calls Tryz.prog 80 #[.bool true, .string (str M), .bool true, .string (str E)] W fun r w' => (∃ z, r = .returned (.tuple #[.float .f64 (z + 9223372036854775808), .bool (decide (fl (z + 9223372036854775808) = 45 :: ([48, 120] ++ (M ++ 112 :: 45 :: E))))]) ∧ z < 9223372036854775808 ∧ P z) ∧ But [] W w' := by
  have q1 : decide ((14 : Int) < (M.length : Int)) = false := decide_eq_false (by omega)
  have q2 : decide ((4 : Int) < (E.length : Int)) = false := decide_eq_false (by omega)
  have s1 : (str M).size = M.length := rfl
  have s2 : (str E).size = E.length := rfl
  obtain ⟨nn, hnn⟩ : ∃ nn, nn = hexV 0 M := ⟨_, rfl⟩
  obtain ⟨pp, hpp⟩ : ∃ pp, pp = decV 0 E := ⟨_, rfl⟩
  rw [← hnn, ← of_int, ← hpp] at hL
  have hn2 := hexV_lt M hM hl1
  have hp2 := decV_lt E hE hl2
  rw [← hnn] at hn2
  rw [← hpp] at hp2
  have HL := Lib.hid hL
  have HS := Lib.hid (show sgw 13830554455654793216 = 9223372036854775808 by decide)
  have HNN := Lib.hid hnn
  have HPP := Lib.hid hpp
  clear hL hnn hpp
  go_enter Tryz.func80, Tryz.ntmps80
  go_wp2_with fail
  go_loopw [10, 12] (fun n i wr => ∃ k : Nat, k ≤ M.length ∧ i = .int .i64 (k : Int) ∧ n = .int .u64 (hexV 0 (M.take k) : Int) ∧ But [] W wr) (fun _ i _ => M.length - (intOf i).toNat)
  case atStart => exact ⟨0, Nat.zero_le _, rfl, rfl, But.refl _ _⟩
  case round =>
    obtain ⟨k, hk, rfl, rfl, hb⟩ := hrel
    by_cases hlt : k < M.length
    · have t1 : decide ((k : Int) < (M.length : Int)) = true := decide_eq_true (Int.ofNat_lt.2 hlt)
      obtain ⟨c, hc⟩ : ∃ c, M[k]? = some c := ⟨_, List.getElem?_eq_getElem hlt⟩
      have hget : ∀ hp, (str M)[k]'hp = c := fun hp => by
        have := List.getElem?_eq_getElem hlt
        rw [hc] at this
        exact (Option.some.inj this).symm
      obtain ⟨hH, hV, hB, hV16⟩ := hex_step hM hl1 hlt hc
      have HV := Lib.hid hV
      generalize hexV 0 (M.take k) = a at *
      clear hV hc
      go_wp2_with (go_at_call 99; refine (rhexv c hH _).mono ?_; rintro e w1 ⟨rfl, hw1⟩; rw [hw1]; clear hw1 w1)
      exact ⟨⟨k + 1, by omega, by go_num, congrArg (Value.int .u64) (by rw [HV.out]; omega), hb⟩, by simp [intOf]; omega⟩
    · obtain rfl : k = M.length := Nat.le_antisymm hk (Nat.le_of_not_lt hlt)
      have t1 : decide ((M.length : Int) < (M.length : Int)) = false := decide_eq_false (Int.lt_irrefl _)
      rw [List.take_length, ← HNN.out]
      go_wp2_with fail
      go_loopw [11, 13] (fun n i wr => ∃ k : Nat, k ≤ E.length ∧ i = .int .i64 (k : Int) ∧ n = .int .i64 (decV 0 (E.take k) : Int) ∧ But [] W wr) (fun _ i _ => E.length - (intOf i).toNat)
      case atStart => exact ⟨0, Nat.zero_le _, rfl, rfl, hb⟩
      case round =>
        obtain ⟨k, hk, rfl, rfl, hb⟩ := hrel
        by_cases hlt : k < E.length
        · have t2 : decide ((k : Int) < (E.length : Int)) = true := decide_eq_true (Int.ofNat_lt.2 hlt)
          obtain ⟨c, hc⟩ : ∃ c, E[k]? = some c := ⟨_, List.getElem?_eq_getElem hlt⟩
          have hget : ∀ hp, (str E)[k]'hp = c := fun hp => by
            have := List.getElem?_eq_getElem hlt
            rw [hc] at this
            exact (Option.some.inj this).symm
          obtain ⟨hB1, hB2, hV, hB⟩ := dec_step hE hl2 hlt hc
          have HV := Lib.hid hV
          generalize decV 0 (E.take k) = a at *
          clear hV hc
          go_wp2_with fail
          exact ⟨⟨k + 1, by omega, by go_num, congrArg (Value.int .i64) (by rw [HV.out]; omega), hb⟩, by simp [intOf]; omega⟩
        · obtain rfl : k = E.length := Nat.le_antisymm hk (Nat.le_of_not_lt hlt)
          have t2 : decide ((E.length : Int) < (E.length : Int)) = false := decide_eq_false (Int.lt_irrefl _)
          rw [List.take_length, ← HPP.out]
          go_wp2_with (first | (go_at_call 100; refine (HL.out _).mono ?_; rintro e2 w1 ⟨⟨z, rfl, hz, hPz⟩, hb1⟩) | (go_at_call 101; refine (copysign_any z 13830554455654793216 hz (by omega) _).mono ?_; rintro e2 w' ⟨rfl, hw2⟩; rw [← hw2, HS.out]; clear hw2 w') | (go_at_call 102; refine (reffloat_any _ (by omega) _).mono ?_; rintro e2 w2 ⟨rfl, hb2⟩))
          all_goals first | (exfalso; omega) | skip
          refine bodyPost_ret (v := .tuple #[.float .f64 (z + 9223372036854775808), .bool ((str (fl (z + 9223372036854775808))).toList == ({ data := #[45] } ++ ({ data := #[48, 120] } ++ str M ++ { data := #[112, 45] } ++ str E)).toList)]) ((results_tmp2 (fn := Tryz.f80) rfl _ _ _).trans rfl) rfl ⟨⟨z, congrArg (fun b => Ending.returned (.tuple #[.float .f64 (z + 9223372036854775808), .bool b])) (seq_dec _ _ _ (by simp [str])), hz, hPz⟩, (hb.trans hb1).trans hb2⟩

end Go.Proofs.YtnghppgpdeghfaaGreatDoor
