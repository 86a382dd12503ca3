/- CplxWhole: the walk. -/
import Derived.Test.YtnmpofjegepmaaaL2
namespace Go.Proofs.Ytnmpofjegepmaaa
open Go.RowKit Go.Proofs.Ytnmpofjegepmaaa.Fl Go.Proofs.Ytnmpofjegepmaaa.Pt

theorem EX.same {x y k : Nat} {A : Int} (hx : EX x A k) (hy : EX y A k) : FloatKind.f64.format.order x y = some Ordering.eq := by
  rw [ord_ky hx.1 hy.1, hx.2, hy.2, cmp_self]
theorem EX.ge0 {x k : Nat} {A : Int} (h : EX x A k) (hA : 0 ≤ A) : (FloatKind.f64.format.order x 0 == some Ordering.lt) = false := by
  rw [ord_ky h.1 fin0, ky0, h.2]
  have hp : (0 : Int) < ((2 ^ k : Nat) : Int) := by exact_mod_cast Nat.two_pow_pos k
  rcases Int.lt_or_eq_of_le hA with h0 | h0
  · rw [cmp_gt (Int.mul_pos h0 hp)]; rfl
  · rw [← h0, Int.zero_mul]; rfl
theorem prod_le {x y : Int} (hx : x.natAbs ≤ 2147483648) (hy : y.natAbs < 1048576) : (x * y).natAbs ≤ 2251799813685248 := by
  rw [Int.natAbs_mul]
  exact Nat.le_trans (Nat.mul_le_mul hx (Nat.le_of_lt hy)) (by decide)

set_option linter.unusedSimpArgs false in
set_option maxHeartbeats 1000000 in
set_option maxRecDepth 100000 in
theorem whole_any (A B C D E : Int) (hA : A.natAbs ≤ 2147483648) (hB : B.natAbs ≤ 2147483648) (w : World) :
    Calls Try.prog 10 #[.int .i32 A, .int .i32 B, .int .i32 C, .int .i32 D, .int .i64 E] w fun e w' => e = .returned (.bool true) ∧ But [] w w' := by
  have hR0 : (C.tmod 1048576).natAbs < 1048576 := by rw [Int.natAbs_tmod]; exact Nat.mod_lt _ (by decide)
  have hS0 : (D.tmod 1048576).natAbs < 1048576 := by rw [Int.natAbs_tmod]; exact Nat.mod_lt _ (by decide)
  go_enter Try.func10, Try.ntmps10
  go_wp2_with fail
  refine (awake03_any _).mono ?_
  rintro e w1 ⟨rfl, hb1⟩
  by_cases h1 : E < 0
  · have e1 : decide (E < 0) = true := by simpa using h1
    obtain ⟨n, hn7, hn⟩ : ∃ n : Nat, (7 : Int) = (n : Int) ∧ n ≤ 60 := ⟨7, rfl, by omega⟩
    clear h1
    go_wp2_with fail
    generalize C.tmod 1048576 = R at *
    generalize D.tmod 1048576 = S at *
    have xA := int_ex A (by omega)
    have xB := int_ex B (by omega)
    have xR := int_ex R (by omega)
    have xS := int_ex S (by omega)
    have pAR := prod_le hA hR0
    have pBS := prod_le hB hS0
    have pAS := prod_le hA hS0
    have pBR := prod_le hB hR0
    have m1 := mul_ex (m := 1074) xA xR (by omega) (by omega) (by omega)
    have m2 := mul_ex (m := 1074) xB xS (by omega) (by omega) (by omega)
    have m3 := mul_ex (m := 1074) xA xS (by omega) (by omega) (by omega)
    have m4 := mul_ex (m := 1074) xB xR (by omega) (by omega) (by omega)
    have q1 := sub_ex m1 m2 (by omega) (by omega)
    have q2 := add_ex m3 m4 (by omega) (by omega)
    have XA := Lib.hid xA
    have XB := Lib.hid xB
    have XR := Lib.hid xR
    have Q1 := Lib.hid q1
    have Q2 := Lib.hid q2
    have t1 : IntKind.i64.wrap (A * R) = A * R := IntWalk.i64_in _ (by omega)
    have t2 : IntKind.i64.wrap (B * S) = B * S := IntWalk.i64_in _ (by omega)
    have t3 : IntKind.i64.wrap (A * S) = A * S := IntWalk.i64_in _ (by omega)
    have t4 : IntKind.i64.wrap (B * R) = B * R := IntWalk.i64_in _ (by omega)
    have t5 : IntKind.i64.wrap (A * R - B * S) = A * R - B * S := IntWalk.i64_in _ (by omega)
    have t6 : IntKind.i64.wrap (A * S + B * R) = A * S + B * R := IntWalk.i64_in _ (by omega)
    have y1 := int_ex (A * R - B * S) (by omega)
    have y2 := int_ex (A * S + B * R) (by omega)
    have Y1 := Lib.hid y1
    have Y2 := Lib.hid y2
    clear xA xB xR xS m1 m2 m3 m4 q1 q2 y1 y2
    refine (mul_any _ _ _ _ _).mono ?_
    rintro e w2 ⟨re, im, nd, rfl, hw2, l1, l2, f1, f2⟩
    have hb2 : But [] w1 w2 := by rw [hw2]; exact (But.refl _ _).drewN _
    have g1 := (EX.of_cn f1 Q1.out).same Y1.out
    have g2 := (EX.of_cn f2 Q2.out).same Y2.out
    clear hw2 f1 f2
    go_wp2_with fail
    refine (ldexp1_any n hn _).mono ?_
    rintro e w3 ⟨rfl, hb3⟩
    clear t1 t2 t3 t4 t5 t6 g1 g2
    go_wp2_with fail
    refine (divw_any hn XA.out XB.out (by omega) (by omega) _).mono ?_
    rintro e w4 ⟨re1, im1, rfl, hb4, x1, x2⟩
    have X1 := Lib.hid x1
    have X2 := Lib.hid x2
    clear x1 x2
    go_wp2_with (refine wpList_farith _ rfl .quo _ _ _ _ rfl _ _ rfl rfl (by simp) ?_; intro i1 ni1 hi1 hc1; have I1 := Lib.hid (EX.of_cn hc1 (inv_ex hn)); clear hi1 hc1)
    refine (scalew_any hn I1.out XA.out XB.out (by omega) (by omega) _).mono ?_
    rintro e w5 ⟨re2, im2, rfl, hb5, x1, x2⟩
    have hb45 : But [] w4 w5 := ((But.refl [] w4).drewN ni1).trans hb5
    have g1 := X1.out.same x1
    have g2 := X2.out.same x2
    clear x1 x2 hb5
    go_wp2_with fail
    refine (divi_any hn XA.out XB.out (by omega) (by omega) _).mono ?_
    rintro e w6 ⟨re3, im3, rfl, hb6, x1, x2⟩
    have X3 := Lib.hid x1
    have X4 := Lib.hid x2
    clear x1 x2
    have nga := negFloat_ng (floatOfInt .f64 A) XA.out.1.1
    obtain ⟨i2, ni2, hrun2, hi2, hc2⟩ := arith_any (P := Try.prog) w6 .quo (by simp) 31 4607182418800017408 (W2 n)
    have I2 := Lib.hid (EX.of_cn hc2 (inv_ex hn))
    clear hi2 hc2
    go_wp2_with fail
    clear hrun2
    refine (scalew_any hn I2.out XB.out (ng_ex XA.out) (by omega) (by omega) _).mono ?_
    rintro e w7 ⟨re4, im4, rfl, hb7, x1, x2⟩
    have hb67 : But [] w6 w7 := ((But.refl [] w6).drewN ni2).trans hb7
    have g3 := X3.out.same x1
    have g4 := X4.out.same x2
    clear x1 x2 hb7
    have hb17 : But [] w w7 := (((((hb1.trans hb2).trans hb3).trans hb4).trans hb45).trans hb6).trans hb67
    clear hb1 hb2 hb3 hb4 hb45 hb6 hb67
    by_cases hneg : A < 0
    · have o4 := XA.out.lt0 hneg
      have XN : Hid (EX (ng (floatOfInt .f64 A)) (A.natAbs : Int) 1074) := Lib.hid (EX_of (ng_ex XA.out) (by omega))
      go_wp2_with fail
      refine (abs_ax XA.out (z_ex 1074) (.inr rfl) (by omega) (by decide) _).mono ?_
      rintro e w8 ⟨r8, rfl, er8, hb8⟩
      have k8 : FloatKind.f64.format.order r8 (ng (floatOfInt .f64 A)) = some Ordering.eq := EX.same (EX_of er8 (by omega)) XN.out
      have K8 := Lib.hid k8
      clear er8 k8
      have k8 := K8.out
      go_wp2_with fail
      refine (abs_ax (z_ex 1074) XA.out (.inl rfl) (by decide) (by omega) _).mono ?_
      rintro e w9 ⟨r9, rfl, er9, hb9⟩
      have k9 : FloatKind.f64.format.order r9 (ng (floatOfInt .f64 A)) = some Ordering.eq := EX.same (EX_of er9 (by omega)) XN.out
      clear er9 k8
      go_wp2_with fail
      have lR := XR.out.1.1
      refine (abs_any (floatOfInt .f64 R) lR _).mono ?_
      rintro e w10 ⟨rfl, rfl⟩
      have xk := abs_ex XR.out
      rw [show floatOfInt .f64 R % 9223372036854775808 = floatOfInt .f64 R % SG from rfl]
      generalize floatOfInt .f64 R % SG = X at *
      have XK := Lib.hid xk
      have hkk : R.natAbs * R.natAbs ≤ 1099511627776 := Nat.le_trans (Nat.mul_le_mul (Nat.le_of_lt hR0) (Nat.le_of_lt hR0)) (by decide)
      have xkk := mul_ex (m := 1074) xk xk (by omega) (by omega) (by omega)
      have XKK := Lib.hid (EX_of xkk (by push_cast; rfl) : EX _ ((R.natAbs * R.natAbs : Nat) : Int) 1074)
      clear xk xkk k9 K8
      go_wp2_with (refine wpList_farith _ rfl .mul _ _ _ _ rfl _ _ rfl rfl (by simp) ?_; intro i3 ni3 hi3 hc3; have I3 := Lib.hid (EX.of_cn hc3 XKK.out); clear hi3 hc3)
      refine (csqrt_pos I3.out hR0 _).mono ?_
      rintro e w11 ⟨sr, si, rfl, hb11, z1, z2⟩
      have v1 := z1.same XK.out
      have v2 := z2.same (z_ex 1074)
      clear z1 z2
      have ngx := negFloat_ng X XK.out.1.1
      have xnk := ng_ex XK.out
      have xnkk := mul_ex (m := 1074) xnk XK.out (by rw [Int.natAbs_mul, Int.natAbs_neg]; simp only [Int.natAbs_natCast]; omega) (by omega) (by omega)
      have XNKK := Lib.hid (EX_of xnkk (by push_cast; rw [Int.neg_mul]) : EX _ (-((R.natAbs * R.natAbs : Nat) : Int)) 1074)
      clear xnk xnkk
      obtain ⟨i4, ni4, hrun4, hi4, hc4⟩ := arith_any (P := Try.prog) w11 .mul (by simp) 31 (ng X) X
      have I4 := Lib.hid (EX.of_cn hc4 XNKK.out)
      clear hi4 hc4
      go_wp2_with fail
      clear hrun4
      refine (csqrt_neg I4.out hR0 _).mono ?_
      rintro e w12 ⟨tr, ti, rfl, hb12, z1, z2⟩
      have v3 := z1.same (z_ex 1074)
      have v4 := z2.same XK.out
      clear z1 z2 v1 v2
      go_wp2_with fail
      go_ret
      exact ⟨rfl, ((((hb17.trans hb8).trans hb9).drewN ni3).trans hb11 |>.drewN ni4).trans hb12⟩
    · have o4 : (FloatKind.f64.format.order (floatOfInt .f64 A) 0 == some Ordering.lt) = false := XA.out.ge0 (by omega)
      have XN : Hid (EX (floatOfInt .f64 A) (A.natAbs : Int) 1074) := Lib.hid (EX_of XA.out (by omega))
      go_wp2_with fail
      refine (abs_ax XA.out (z_ex 1074) (.inr rfl) (by omega) (by decide) _).mono ?_
      rintro e w8 ⟨r8, rfl, er8, hb8⟩
      have k8 : FloatKind.f64.format.order r8 (floatOfInt .f64 A) = some Ordering.eq := EX.same (EX_of er8 (by omega)) XN.out
      have K8 := Lib.hid k8
      clear er8 k8
      have k8 := K8.out
      go_wp2_with fail
      refine (abs_ax (z_ex 1074) XA.out (.inl rfl) (by decide) (by omega) _).mono ?_
      rintro e w9 ⟨r9, rfl, er9, hb9⟩
      have k9 : FloatKind.f64.format.order r9 (floatOfInt .f64 A) = some Ordering.eq := EX.same (EX_of er9 (by omega)) XN.out
      clear er9 k8
      go_wp2_with fail
      have lR := XR.out.1.1
      refine (abs_any (floatOfInt .f64 R) lR _).mono ?_
      rintro e w10 ⟨rfl, rfl⟩
      have xk := abs_ex XR.out
      rw [show floatOfInt .f64 R % 9223372036854775808 = floatOfInt .f64 R % SG from rfl]
      generalize floatOfInt .f64 R % SG = X at *
      have XK := Lib.hid xk
      have hkk : R.natAbs * R.natAbs ≤ 1099511627776 := Nat.le_trans (Nat.mul_le_mul (Nat.le_of_lt hR0) (Nat.le_of_lt hR0)) (by decide)
      have xkk := mul_ex (m := 1074) xk xk (by omega) (by omega) (by omega)
      have XKK := Lib.hid (EX_of xkk (by push_cast; rfl) : EX _ ((R.natAbs * R.natAbs : Nat) : Int) 1074)
      clear xk xkk k9 K8
      go_wp2_with (refine wpList_farith _ rfl .mul _ _ _ _ rfl _ _ rfl rfl (by simp) ?_; intro i3 ni3 hi3 hc3; have I3 := Lib.hid (EX.of_cn hc3 XKK.out); clear hi3 hc3)
      refine (csqrt_pos I3.out hR0 _).mono ?_
      rintro e w11 ⟨sr, si, rfl, hb11, z1, z2⟩
      have v1 := z1.same XK.out
      have v2 := z2.same (z_ex 1074)
      clear z1 z2
      have ngx := negFloat_ng X XK.out.1.1
      have xnk := ng_ex XK.out
      have xnkk := mul_ex (m := 1074) xnk XK.out (by rw [Int.natAbs_mul, Int.natAbs_neg]; simp only [Int.natAbs_natCast]; omega) (by omega) (by omega)
      have XNKK := Lib.hid (EX_of xnkk (by push_cast; rw [Int.neg_mul]) : EX _ (-((R.natAbs * R.natAbs : Nat) : Int)) 1074)
      clear xnk xnkk
      obtain ⟨i4, ni4, hrun4, hi4, hc4⟩ := arith_any (P := Try.prog) w11 .mul (by simp) 31 (ng X) X
      have I4 := Lib.hid (EX.of_cn hc4 XNKK.out)
      clear hi4 hc4
      go_wp2_with fail
      clear hrun4
      refine (csqrt_neg I4.out hR0 _).mono ?_
      rintro e w12 ⟨tr, ti, rfl, hb12, z1, z2⟩
      have v3 := z1.same (z_ex 1074)
      have v4 := z2.same XK.out
      clear z1 z2 v1 v2
      go_wp2_with fail
      go_ret
      exact ⟨rfl, ((((hb17.trans hb8).trans hb9).drewN ni3).trans hb11 |>.drewN ni4).trans hb12⟩
  · have e1 : decide (E < 0) = false := by simpa using h1
    by_cases h2 : 60 < E
    · have e2 : decide (60 < E) = true := by simpa using h2
      obtain ⟨n, hn7, hn⟩ : ∃ n : Nat, (7 : Int) = (n : Int) ∧ n ≤ 60 := ⟨7, rfl, by omega⟩
      clear h1
      go_wp2_with fail
      generalize C.tmod 1048576 = R at *
      generalize D.tmod 1048576 = S at *
      have xA := int_ex A (by omega)
      have xB := int_ex B (by omega)
      have xR := int_ex R (by omega)
      have xS := int_ex S (by omega)
      have pAR := prod_le hA hR0
      have pBS := prod_le hB hS0
      have pAS := prod_le hA hS0
      have pBR := prod_le hB hR0
      have m1 := mul_ex (m := 1074) xA xR (by omega) (by omega) (by omega)
      have m2 := mul_ex (m := 1074) xB xS (by omega) (by omega) (by omega)
      have m3 := mul_ex (m := 1074) xA xS (by omega) (by omega) (by omega)
      have m4 := mul_ex (m := 1074) xB xR (by omega) (by omega) (by omega)
      have q1 := sub_ex m1 m2 (by omega) (by omega)
      have q2 := add_ex m3 m4 (by omega) (by omega)
      have XA := Lib.hid xA
      have XB := Lib.hid xB
      have XR := Lib.hid xR
      have Q1 := Lib.hid q1
      have Q2 := Lib.hid q2
      have t1 : IntKind.i64.wrap (A * R) = A * R := IntWalk.i64_in _ (by omega)
      have t2 : IntKind.i64.wrap (B * S) = B * S := IntWalk.i64_in _ (by omega)
      have t3 : IntKind.i64.wrap (A * S) = A * S := IntWalk.i64_in _ (by omega)
      have t4 : IntKind.i64.wrap (B * R) = B * R := IntWalk.i64_in _ (by omega)
      have t5 : IntKind.i64.wrap (A * R - B * S) = A * R - B * S := IntWalk.i64_in _ (by omega)
      have t6 : IntKind.i64.wrap (A * S + B * R) = A * S + B * R := IntWalk.i64_in _ (by omega)
      have y1 := int_ex (A * R - B * S) (by omega)
      have y2 := int_ex (A * S + B * R) (by omega)
      have Y1 := Lib.hid y1
      have Y2 := Lib.hid y2
      clear xA xB xR xS m1 m2 m3 m4 q1 q2 y1 y2
      refine (mul_any _ _ _ _ _).mono ?_
      rintro e w2 ⟨re, im, nd, rfl, hw2, l1, l2, f1, f2⟩
      have hb2 : But [] w1 w2 := by rw [hw2]; exact (But.refl _ _).drewN _
      have g1 := (EX.of_cn f1 Q1.out).same Y1.out
      have g2 := (EX.of_cn f2 Q2.out).same Y2.out
      clear hw2 f1 f2
      go_wp2_with fail
      refine (ldexp1_any n hn _).mono ?_
      rintro e w3 ⟨rfl, hb3⟩
      clear t1 t2 t3 t4 t5 t6 g1 g2
      go_wp2_with fail
      refine (divw_any hn XA.out XB.out (by omega) (by omega) _).mono ?_
      rintro e w4 ⟨re1, im1, rfl, hb4, x1, x2⟩
      have X1 := Lib.hid x1
      have X2 := Lib.hid x2
      clear x1 x2
      go_wp2_with (refine wpList_farith _ rfl .quo _ _ _ _ rfl _ _ rfl rfl (by simp) ?_; intro i1 ni1 hi1 hc1; have I1 := Lib.hid (EX.of_cn hc1 (inv_ex hn)); clear hi1 hc1)
      refine (scalew_any hn I1.out XA.out XB.out (by omega) (by omega) _).mono ?_
      rintro e w5 ⟨re2, im2, rfl, hb5, x1, x2⟩
      have hb45 : But [] w4 w5 := ((But.refl [] w4).drewN ni1).trans hb5
      have g1 := X1.out.same x1
      have g2 := X2.out.same x2
      clear x1 x2 hb5
      go_wp2_with fail
      refine (divi_any hn XA.out XB.out (by omega) (by omega) _).mono ?_
      rintro e w6 ⟨re3, im3, rfl, hb6, x1, x2⟩
      have X3 := Lib.hid x1
      have X4 := Lib.hid x2
      clear x1 x2
      have nga := negFloat_ng (floatOfInt .f64 A) XA.out.1.1
      obtain ⟨i2, ni2, hrun2, hi2, hc2⟩ := arith_any (P := Try.prog) w6 .quo (by simp) 31 4607182418800017408 (W2 n)
      have I2 := Lib.hid (EX.of_cn hc2 (inv_ex hn))
      clear hi2 hc2
      go_wp2_with fail
      clear hrun2
      refine (scalew_any hn I2.out XB.out (ng_ex XA.out) (by omega) (by omega) _).mono ?_
      rintro e w7 ⟨re4, im4, rfl, hb7, x1, x2⟩
      have hb67 : But [] w6 w7 := ((But.refl [] w6).drewN ni2).trans hb7
      have g3 := X3.out.same x1
      have g4 := X4.out.same x2
      clear x1 x2 hb7
      have hb17 : But [] w w7 := (((((hb1.trans hb2).trans hb3).trans hb4).trans hb45).trans hb6).trans hb67
      clear hb1 hb2 hb3 hb4 hb45 hb6 hb67
      by_cases hneg : A < 0
      · have o4 := XA.out.lt0 hneg
        have XN : Hid (EX (ng (floatOfInt .f64 A)) (A.natAbs : Int) 1074) := Lib.hid (EX_of (ng_ex XA.out) (by omega))
        go_wp2_with fail
        refine (abs_ax XA.out (z_ex 1074) (.inr rfl) (by omega) (by decide) _).mono ?_
        rintro e w8 ⟨r8, rfl, er8, hb8⟩
        have k8 : FloatKind.f64.format.order r8 (ng (floatOfInt .f64 A)) = some Ordering.eq := EX.same (EX_of er8 (by omega)) XN.out
        have K8 := Lib.hid k8
        clear er8 k8
        have k8 := K8.out
        go_wp2_with fail
        refine (abs_ax (z_ex 1074) XA.out (.inl rfl) (by decide) (by omega) _).mono ?_
        rintro e w9 ⟨r9, rfl, er9, hb9⟩
        have k9 : FloatKind.f64.format.order r9 (ng (floatOfInt .f64 A)) = some Ordering.eq := EX.same (EX_of er9 (by omega)) XN.out
        clear er9 k8
        go_wp2_with fail
        have lR := XR.out.1.1
        refine (abs_any (floatOfInt .f64 R) lR _).mono ?_
        rintro e w10 ⟨rfl, rfl⟩
        have xk := abs_ex XR.out
        rw [show floatOfInt .f64 R % 9223372036854775808 = floatOfInt .f64 R % SG from rfl]
        generalize floatOfInt .f64 R % SG = X at *
        have XK := Lib.hid xk
        have hkk : R.natAbs * R.natAbs ≤ 1099511627776 := Nat.le_trans (Nat.mul_le_mul (Nat.le_of_lt hR0) (Nat.le_of_lt hR0)) (by decide)
        have xkk := mul_ex (m := 1074) xk xk (by omega) (by omega) (by omega)
        have XKK := Lib.hid (EX_of xkk (by push_cast; rfl) : EX _ ((R.natAbs * R.natAbs : Nat) : Int) 1074)
        clear xk xkk k9 K8
        go_wp2_with (refine wpList_farith _ rfl .mul _ _ _ _ rfl _ _ rfl rfl (by simp) ?_; intro i3 ni3 hi3 hc3; have I3 := Lib.hid (EX.of_cn hc3 XKK.out); clear hi3 hc3)
        refine (csqrt_pos I3.out hR0 _).mono ?_
        rintro e w11 ⟨sr, si, rfl, hb11, z1, z2⟩
        have v1 := z1.same XK.out
        have v2 := z2.same (z_ex 1074)
        clear z1 z2
        have ngx := negFloat_ng X XK.out.1.1
        have xnk := ng_ex XK.out
        have xnkk := mul_ex (m := 1074) xnk XK.out (by rw [Int.natAbs_mul, Int.natAbs_neg]; simp only [Int.natAbs_natCast]; omega) (by omega) (by omega)
        have XNKK := Lib.hid (EX_of xnkk (by push_cast; rw [Int.neg_mul]) : EX _ (-((R.natAbs * R.natAbs : Nat) : Int)) 1074)
        clear xnk xnkk
        obtain ⟨i4, ni4, hrun4, hi4, hc4⟩ := arith_any (P := Try.prog) w11 .mul (by simp) 31 (ng X) X
        have I4 := Lib.hid (EX.of_cn hc4 XNKK.out)
        clear hi4 hc4
        go_wp2_with fail
        clear hrun4
        refine (csqrt_neg I4.out hR0 _).mono ?_
        rintro e w12 ⟨tr, ti, rfl, hb12, z1, z2⟩
        have v3 := z1.same (z_ex 1074)
        have v4 := z2.same XK.out
        clear z1 z2 v1 v2
        go_wp2_with fail
        go_ret
        exact ⟨rfl, ((((hb17.trans hb8).trans hb9).drewN ni3).trans hb11 |>.drewN ni4).trans hb12⟩
      · have o4 : (FloatKind.f64.format.order (floatOfInt .f64 A) 0 == some Ordering.lt) = false := XA.out.ge0 (by omega)
        have XN : Hid (EX (floatOfInt .f64 A) (A.natAbs : Int) 1074) := Lib.hid (EX_of XA.out (by omega))
        go_wp2_with fail
        refine (abs_ax XA.out (z_ex 1074) (.inr rfl) (by omega) (by decide) _).mono ?_
        rintro e w8 ⟨r8, rfl, er8, hb8⟩
        have k8 : FloatKind.f64.format.order r8 (floatOfInt .f64 A) = some Ordering.eq := EX.same (EX_of er8 (by omega)) XN.out
        have K8 := Lib.hid k8
        clear er8 k8
        have k8 := K8.out
        go_wp2_with fail
        refine (abs_ax (z_ex 1074) XA.out (.inl rfl) (by decide) (by omega) _).mono ?_
        rintro e w9 ⟨r9, rfl, er9, hb9⟩
        have k9 : FloatKind.f64.format.order r9 (floatOfInt .f64 A) = some Ordering.eq := EX.same (EX_of er9 (by omega)) XN.out
        clear er9 k8
        go_wp2_with fail
        have lR := XR.out.1.1
        refine (abs_any (floatOfInt .f64 R) lR _).mono ?_
        rintro e w10 ⟨rfl, rfl⟩
        have xk := abs_ex XR.out
        rw [show floatOfInt .f64 R % 9223372036854775808 = floatOfInt .f64 R % SG from rfl]
        generalize floatOfInt .f64 R % SG = X at *
        have XK := Lib.hid xk
        have hkk : R.natAbs * R.natAbs ≤ 1099511627776 := Nat.le_trans (Nat.mul_le_mul (Nat.le_of_lt hR0) (Nat.le_of_lt hR0)) (by decide)
        have xkk := mul_ex (m := 1074) xk xk (by omega) (by omega) (by omega)
        have XKK := Lib.hid (EX_of xkk (by push_cast; rfl) : EX _ ((R.natAbs * R.natAbs : Nat) : Int) 1074)
        clear xk xkk k9 K8
        go_wp2_with (refine wpList_farith _ rfl .mul _ _ _ _ rfl _ _ rfl rfl (by simp) ?_; intro i3 ni3 hi3 hc3; have I3 := Lib.hid (EX.of_cn hc3 XKK.out); clear hi3 hc3)
        refine (csqrt_pos I3.out hR0 _).mono ?_
        rintro e w11 ⟨sr, si, rfl, hb11, z1, z2⟩
        have v1 := z1.same XK.out
        have v2 := z2.same (z_ex 1074)
        clear z1 z2
        have ngx := negFloat_ng X XK.out.1.1
        have xnk := ng_ex XK.out
        have xnkk := mul_ex (m := 1074) xnk XK.out (by rw [Int.natAbs_mul, Int.natAbs_neg]; simp only [Int.natAbs_natCast]; omega) (by omega) (by omega)
        have XNKK := Lib.hid (EX_of xnkk (by push_cast; rw [Int.neg_mul]) : EX _ (-((R.natAbs * R.natAbs : Nat) : Int)) 1074)
        clear xnk xnkk
        obtain ⟨i4, ni4, hrun4, hi4, hc4⟩ := arith_any (P := Try.prog) w11 .mul (by simp) 31 (ng X) X
        have I4 := Lib.hid (EX.of_cn hc4 XNKK.out)
        clear hi4 hc4
        go_wp2_with fail
        clear hrun4
        refine (csqrt_neg I4.out hR0 _).mono ?_
        rintro e w12 ⟨tr, ti, rfl, hb12, z1, z2⟩
        have v3 := z1.same (z_ex 1074)
        have v4 := z2.same XK.out
        clear z1 z2 v1 v2
        go_wp2_with fail
        go_ret
        exact ⟨rfl, ((((hb17.trans hb8).trans hb9).drewN ni3).trans hb11 |>.drewN ni4).trans hb12⟩
    · have e2 : decide (60 < E) = false := by simpa using h2
      obtain ⟨n, rfl, hn⟩ : ∃ n : Nat, E = (n : Int) ∧ n ≤ 60 := ⟨E.toNat, by omega, by omega⟩
      clear h1
      go_wp2_with fail
      generalize C.tmod 1048576 = R at *
      generalize D.tmod 1048576 = S at *
      have xA := int_ex A (by omega)
      have xB := int_ex B (by omega)
      have xR := int_ex R (by omega)
      have xS := int_ex S (by omega)
      have pAR := prod_le hA hR0
      have pBS := prod_le hB hS0
      have pAS := prod_le hA hS0
      have pBR := prod_le hB hR0
      have m1 := mul_ex (m := 1074) xA xR (by omega) (by omega) (by omega)
      have m2 := mul_ex (m := 1074) xB xS (by omega) (by omega) (by omega)
      have m3 := mul_ex (m := 1074) xA xS (by omega) (by omega) (by omega)
      have m4 := mul_ex (m := 1074) xB xR (by omega) (by omega) (by omega)
      have q1 := sub_ex m1 m2 (by omega) (by omega)
      have q2 := add_ex m3 m4 (by omega) (by omega)
      have XA := Lib.hid xA
      have XB := Lib.hid xB
      have XR := Lib.hid xR
      have Q1 := Lib.hid q1
      have Q2 := Lib.hid q2
      have t1 : IntKind.i64.wrap (A * R) = A * R := IntWalk.i64_in _ (by omega)
      have t2 : IntKind.i64.wrap (B * S) = B * S := IntWalk.i64_in _ (by omega)
      have t3 : IntKind.i64.wrap (A * S) = A * S := IntWalk.i64_in _ (by omega)
      have t4 : IntKind.i64.wrap (B * R) = B * R := IntWalk.i64_in _ (by omega)
      have t5 : IntKind.i64.wrap (A * R - B * S) = A * R - B * S := IntWalk.i64_in _ (by omega)
      have t6 : IntKind.i64.wrap (A * S + B * R) = A * S + B * R := IntWalk.i64_in _ (by omega)
      have y1 := int_ex (A * R - B * S) (by omega)
      have y2 := int_ex (A * S + B * R) (by omega)
      have Y1 := Lib.hid y1
      have Y2 := Lib.hid y2
      clear xA xB xR xS m1 m2 m3 m4 q1 q2 y1 y2
      refine (mul_any _ _ _ _ _).mono ?_
      rintro e w2 ⟨re, im, nd, rfl, hw2, l1, l2, f1, f2⟩
      have hb2 : But [] w1 w2 := by rw [hw2]; exact (But.refl _ _).drewN _
      have g1 := (EX.of_cn f1 Q1.out).same Y1.out
      have g2 := (EX.of_cn f2 Q2.out).same Y2.out
      clear hw2 f1 f2
      go_wp2_with fail
      refine (ldexp1_any n hn _).mono ?_
      rintro e w3 ⟨rfl, hb3⟩
      clear t1 t2 t3 t4 t5 t6 g1 g2
      go_wp2_with fail
      refine (divw_any hn XA.out XB.out (by omega) (by omega) _).mono ?_
      rintro e w4 ⟨re1, im1, rfl, hb4, x1, x2⟩
      have X1 := Lib.hid x1
      have X2 := Lib.hid x2
      clear x1 x2
      go_wp2_with (refine wpList_farith _ rfl .quo _ _ _ _ rfl _ _ rfl rfl (by simp) ?_; intro i1 ni1 hi1 hc1; have I1 := Lib.hid (EX.of_cn hc1 (inv_ex hn)); clear hi1 hc1)
      refine (scalew_any hn I1.out XA.out XB.out (by omega) (by omega) _).mono ?_
      rintro e w5 ⟨re2, im2, rfl, hb5, x1, x2⟩
      have hb45 : But [] w4 w5 := ((But.refl [] w4).drewN ni1).trans hb5
      have g1 := X1.out.same x1
      have g2 := X2.out.same x2
      clear x1 x2 hb5
      go_wp2_with fail
      refine (divi_any hn XA.out XB.out (by omega) (by omega) _).mono ?_
      rintro e w6 ⟨re3, im3, rfl, hb6, x1, x2⟩
      have X3 := Lib.hid x1
      have X4 := Lib.hid x2
      clear x1 x2
      have nga := negFloat_ng (floatOfInt .f64 A) XA.out.1.1
      obtain ⟨i2, ni2, hrun2, hi2, hc2⟩ := arith_any (P := Try.prog) w6 .quo (by simp) 31 4607182418800017408 (W2 n)
      have I2 := Lib.hid (EX.of_cn hc2 (inv_ex hn))
      clear hi2 hc2
      go_wp2_with fail
      clear hrun2
      refine (scalew_any hn I2.out XB.out (ng_ex XA.out) (by omega) (by omega) _).mono ?_
      rintro e w7 ⟨re4, im4, rfl, hb7, x1, x2⟩
      have hb67 : But [] w6 w7 := ((But.refl [] w6).drewN ni2).trans hb7
      have g3 := X3.out.same x1
      have g4 := X4.out.same x2
      clear x1 x2 hb7
      have hb17 : But [] w w7 := (((((hb1.trans hb2).trans hb3).trans hb4).trans hb45).trans hb6).trans hb67
      clear hb1 hb2 hb3 hb4 hb45 hb6 hb67
      by_cases hneg : A < 0
      · have o4 := XA.out.lt0 hneg
        have XN : Hid (EX (ng (floatOfInt .f64 A)) (A.natAbs : Int) 1074) := Lib.hid (EX_of (ng_ex XA.out) (by omega))
        go_wp2_with fail
        refine (abs_ax XA.out (z_ex 1074) (.inr rfl) (by omega) (by decide) _).mono ?_
        rintro e w8 ⟨r8, rfl, er8, hb8⟩
        have k8 : FloatKind.f64.format.order r8 (ng (floatOfInt .f64 A)) = some Ordering.eq := EX.same (EX_of er8 (by omega)) XN.out
        have K8 := Lib.hid k8
        clear er8 k8
        have k8 := K8.out
        go_wp2_with fail
        refine (abs_ax (z_ex 1074) XA.out (.inl rfl) (by decide) (by omega) _).mono ?_
        rintro e w9 ⟨r9, rfl, er9, hb9⟩
        have k9 : FloatKind.f64.format.order r9 (ng (floatOfInt .f64 A)) = some Ordering.eq := EX.same (EX_of er9 (by omega)) XN.out
        clear er9 k8
        go_wp2_with fail
        have lR := XR.out.1.1
        refine (abs_any (floatOfInt .f64 R) lR _).mono ?_
        rintro e w10 ⟨rfl, rfl⟩
        have xk := abs_ex XR.out
        rw [show floatOfInt .f64 R % 9223372036854775808 = floatOfInt .f64 R % SG from rfl]
        generalize floatOfInt .f64 R % SG = X at *
        have XK := Lib.hid xk
        have hkk : R.natAbs * R.natAbs ≤ 1099511627776 := Nat.le_trans (Nat.mul_le_mul (Nat.le_of_lt hR0) (Nat.le_of_lt hR0)) (by decide)
        have xkk := mul_ex (m := 1074) xk xk (by omega) (by omega) (by omega)
        have XKK := Lib.hid (EX_of xkk (by push_cast; rfl) : EX _ ((R.natAbs * R.natAbs : Nat) : Int) 1074)
        clear xk xkk k9 K8
        go_wp2_with (refine wpList_farith _ rfl .mul _ _ _ _ rfl _ _ rfl rfl (by simp) ?_; intro i3 ni3 hi3 hc3; have I3 := Lib.hid (EX.of_cn hc3 XKK.out); clear hi3 hc3)
        refine (csqrt_pos I3.out hR0 _).mono ?_
        rintro e w11 ⟨sr, si, rfl, hb11, z1, z2⟩
        have v1 := z1.same XK.out
        have v2 := z2.same (z_ex 1074)
        clear z1 z2
        have ngx := negFloat_ng X XK.out.1.1
        have xnk := ng_ex XK.out
        have xnkk := mul_ex (m := 1074) xnk XK.out (by rw [Int.natAbs_mul, Int.natAbs_neg]; simp only [Int.natAbs_natCast]; omega) (by omega) (by omega)
        have XNKK := Lib.hid (EX_of xnkk (by push_cast; rw [Int.neg_mul]) : EX _ (-((R.natAbs * R.natAbs : Nat) : Int)) 1074)
        clear xnk xnkk
        obtain ⟨i4, ni4, hrun4, hi4, hc4⟩ := arith_any (P := Try.prog) w11 .mul (by simp) 31 (ng X) X
        have I4 := Lib.hid (EX.of_cn hc4 XNKK.out)
        clear hi4 hc4
        go_wp2_with fail
        clear hrun4
        refine (csqrt_neg I4.out hR0 _).mono ?_
        rintro e w12 ⟨tr, ti, rfl, hb12, z1, z2⟩
        have v3 := z1.same (z_ex 1074)
        have v4 := z2.same XK.out
        clear z1 z2 v1 v2
        go_wp2_with fail
        go_ret
        exact ⟨rfl, ((((hb17.trans hb8).trans hb9).drewN ni3).trans hb11 |>.drewN ni4).trans hb12⟩
      · have o4 : (FloatKind.f64.format.order (floatOfInt .f64 A) 0 == some Ordering.lt) = false := XA.out.ge0 (by omega)
        have XN : Hid (EX (floatOfInt .f64 A) (A.natAbs : Int) 1074) := Lib.hid (EX_of XA.out (by omega))
        go_wp2_with fail
        refine (abs_ax XA.out (z_ex 1074) (.inr rfl) (by omega) (by decide) _).mono ?_
        rintro e w8 ⟨r8, rfl, er8, hb8⟩
        have k8 : FloatKind.f64.format.order r8 (floatOfInt .f64 A) = some Ordering.eq := EX.same (EX_of er8 (by omega)) XN.out
        have K8 := Lib.hid k8
        clear er8 k8
        have k8 := K8.out
        go_wp2_with fail
        refine (abs_ax (z_ex 1074) XA.out (.inl rfl) (by decide) (by omega) _).mono ?_
        rintro e w9 ⟨r9, rfl, er9, hb9⟩
        have k9 : FloatKind.f64.format.order r9 (floatOfInt .f64 A) = some Ordering.eq := EX.same (EX_of er9 (by omega)) XN.out
        clear er9 k8
        go_wp2_with fail
        have lR := XR.out.1.1
        refine (abs_any (floatOfInt .f64 R) lR _).mono ?_
        rintro e w10 ⟨rfl, rfl⟩
        have xk := abs_ex XR.out
        rw [show floatOfInt .f64 R % 9223372036854775808 = floatOfInt .f64 R % SG from rfl]
        generalize floatOfInt .f64 R % SG = X at *
        have XK := Lib.hid xk
        have hkk : R.natAbs * R.natAbs ≤ 1099511627776 := Nat.le_trans (Nat.mul_le_mul (Nat.le_of_lt hR0) (Nat.le_of_lt hR0)) (by decide)
        have xkk := mul_ex (m := 1074) xk xk (by omega) (by omega) (by omega)
        have XKK := Lib.hid (EX_of xkk (by push_cast; rfl) : EX _ ((R.natAbs * R.natAbs : Nat) : Int) 1074)
        clear xk xkk k9 K8
        go_wp2_with (refine wpList_farith _ rfl .mul _ _ _ _ rfl _ _ rfl rfl (by simp) ?_; intro i3 ni3 hi3 hc3; have I3 := Lib.hid (EX.of_cn hc3 XKK.out); clear hi3 hc3)
        refine (csqrt_pos I3.out hR0 _).mono ?_
        rintro e w11 ⟨sr, si, rfl, hb11, z1, z2⟩
        have v1 := z1.same XK.out
        have v2 := z2.same (z_ex 1074)
        clear z1 z2
        have ngx := negFloat_ng X XK.out.1.1
        have xnk := ng_ex XK.out
        have xnkk := mul_ex (m := 1074) xnk XK.out (by rw [Int.natAbs_mul, Int.natAbs_neg]; simp only [Int.natAbs_natCast]; omega) (by omega) (by omega)
        have XNKK := Lib.hid (EX_of xnkk (by push_cast; rw [Int.neg_mul]) : EX _ (-((R.natAbs * R.natAbs : Nat) : Int)) 1074)
        clear xnk xnkk
        obtain ⟨i4, ni4, hrun4, hi4, hc4⟩ := arith_any (P := Try.prog) w11 .mul (by simp) 31 (ng X) X
        have I4 := Lib.hid (EX.of_cn hc4 XNKK.out)
        clear hi4 hc4
        go_wp2_with fail
        clear hrun4
        refine (csqrt_neg I4.out hR0 _).mono ?_
        rintro e w12 ⟨tr, ti, rfl, hb12, z1, z2⟩
        have v3 := z1.same (z_ex 1074)
        have v4 := z2.same XK.out
        clear z1 z2 v1 v2
        go_wp2_with fail
        go_ret
        exact ⟨rfl, ((((hb17.trans hb8).trans hb9).drewN ni3).trans hb11 |>.drewN ni4).trans hb12⟩
end Go.Proofs.Ytnmpofjegepmaaa
