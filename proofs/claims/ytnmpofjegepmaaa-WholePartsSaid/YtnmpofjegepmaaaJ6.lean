/- WholeParts: the walk. -/
import Derived.Test.YtnmpofjegepmaaaJ5
import Derived.Test.YtnmpofjegepmaaaJ7
namespace Go.Proofs.Ytnmpofjegepmaaa
open Go.RowKit Go.Proofs.Ytnmpofjegepmaaa.Fl Go.Proofs.Ytnmpofjegepmaaa.Pt

theorem ii_re : MR 0 4607182418800017408 0 4607182418800017408 = 13830554455654793216 := by decide +kernel
theorem ii_im : MI 0 4607182418800017408 0 4607182418800017408 = 0 := by decide +kernel
theorem re_close {a b c d r1 r2 r3 : Nat} (H1 : Ar .mul a c r1) (H2 : Ar .mul b d r2) (H3 : Ar .sub r1 r2 r3) : cn r3 = MR a b c d := by rw [H3.2, N2_l H1.2, N2_r H2.2]; rfl
theorem im_close {a b c d r1 r2 r3 : Nat} (H1 : Ar .mul a d r1) (H2 : Ar .mul b c r2) (H3 : Ar .add r1 r2 r3) : cn r3 = MI a b c d := by rw [H3.2, N2_l H1.2, N2_r H2.2]; rfl

theorem alike_mul {a b c d r1 r2 r3 r4 r5 r : Nat} {p : C} (hp : ccn p = cmul (a, b) (c, d)) (wp : wf p) (w : World) (H1 : Ar .mul a c r1) (H2 : Ar .mul b d r2) (H3 : Ar .sub r1 r2 r3) (H4 : Ar .mul a d r4) (H5 : Ar .mul b c r5) (H6 : Ar .add r4 r5 r) :
    Calls Try.prog 36 #[.complex .f64 p.1 p.2, .complex .f64 r3 r] w fun e w' => e = .returned (.bool true) ∧ w = w' :=
  alike_true p (r3, r) wp ⟨H3.1, H6.1⟩ (by rw [hp]; unfold ccn cmul; rw [re_close H1 H2 H3, im_close H4 H5 H6]) w

set_option linter.unusedSimpArgs false in
set_option maxHeartbeats 1000000 in
set_option maxRecDepth 100000 in
theorem parts_any (a b c d : Nat) (ha : a < 18446744073709551616) (hb : b < 18446744073709551616) (hc : c < 18446744073709551616) (hd : d < 18446744073709551616) (w : World) :
    Calls Try.prog 9 #[.int .u64 (a : Int), .int .u64 (b : Int), .int .u64 (c : Int), .int .u64 (d : Int)] w fun e w' => e = .returned (.bool true) ∧ But [] w w' := by
  have o1 : FloatKind.f64.format.order 13830554455654793216 13830554455654793216 = some Ordering.eq := by decide +kernel
  have o0 : FloatKind.f64.format.order 0 0 = some Ordering.eq := by decide +kernel
  have o5 : FloatKind.f64.format.order 4617315517961601024 4617315517961601024 = some Ordering.eq := by decide +kernel
  go_enter Try.func9, Try.ntmps9
  go_wp2_with fail
  refine (mul_any 0 4607182418800017408 0 4607182418800017408 _).mono ?_
  rintro e w1 ⟨re, im, nd, rfl, hw1, l1, l2, e1, e2⟩
  obtain rfl := cn_eq (e1.trans ii_re) (by decide)
  obtain rfl := cn_eq (e2.trans ii_im) (by decide)
  have hb1 : But [] w w1 := by rw [hw1]; exact (But.refl _ _).drewN _
  clear hw1 e1 e2
  go_wp2_with fail
  refine (abs5_any _).mono ?_
  rintro e w2 ⟨rfl, hb2⟩
  clear o1 o0
  have o5' := o5
  go_wp2_with fail
  refine (mul_any a b c d _).mono ?_
  rintro e w3 ⟨pr, pi, nd, rfl, hw3, pl1, pl2, pe1, pe2⟩
  have hb3 : But [] w2 w3 := by rw [hw3]; exact (But.refl _ _).drewN _
  have PE1 := Lib.hid pe1
  have PE2 := Lib.hid pe2
  clear hw3 pe1 pe2 o5 o5'
  go_wp2_with (refine wpList_farith _ rfl _ _ _ _ _ rfl _ _ rfl rfl (by simp) ?_; intro r n hr hc; have HR : Ar _ _ _ _ := And.intro hr hc; clear hr hc)
  have hp : ccn (pr, pi) = cmul (a, b) (c, d) := by unfold ccn cmul; rw [PE1.out, PE2.out]
  have HP := Lib.hid hp
  clear hp
  refine (alike_mul (p := (pr, pi)) HP.out ⟨pl1, pl2⟩ _ (by assumption) (by assumption) (by assumption) (by assumption) (by assumption) (by assumption)).mono ?_
  rintro e w5 ⟨rfl, hw5⟩
  have hb5 : But [] w w5 := by rw [← hw5]; exact ((hb1.trans hb2).trans hb3).drewN _
  clear hb1 hb2 hb3 hw5
  go_wp2_with fail
  refine (mul_any c d a b _).mono ?_
  rintro e w6 ⟨qr, qi, nd2, rfl, hw6, ql1, ql2, qe1, qe2⟩
  have hb6 : But [] w5 w6 := by rw [hw6]; exact (But.refl _ _).drewN _
  have QE : Hid (ccn (qr, qi) = ccn (pr, pi)) := Lib.hid (by rw [HP.out, cmul_comm]; unfold ccn cmul; rw [qe1, qe2])
  clear hw6 qe1 qe2
  go_wp2_with fail
  refine (alike_true (qr, qi) (pr, pi) ⟨ql1, ql2⟩ ⟨pl1, pl2⟩ QE.out _).mono ?_
  rintro e w7 ⟨rfl, rfl⟩
  go_wp2_with fail
  refine (csame_any (a, b) (c, d) ⟨ha, hb⟩ ⟨hc, hd⟩ _).mono ?_
  rintro e w8 ⟨rfl, rfl⟩
  go_wp2_with fail
  refine (alike_any (a, b) (c, d) ⟨ha, hb⟩ ⟨hc, hd⟩ _).mono ?_
  rintro e w9 ⟨rfl, rfl⟩
  generalize eqC (a, b) (c, d) = EB
  have lna := ng_lt ha
  have lnb := ng_lt hb
  have lnc := ng_lt hc
  have lnd := ng_lt hd
  have nna := Lib.hid (ng_ng ha)
  have nnb := Lib.hid (ng_ng hb)
  go_wp2_with fail
  refine (turn_any a b hb _).mono ?_
  rintro e w9 ⟨rfl, rfl⟩
  go_wp2_with fail
  refine (turn_any (ng b) a ha _).mono ?_
  rintro e w9' ⟨rfl, rfl⟩
  go_wp2_with fail
  refine (turn_any (ng a) (ng b) lnb _).mono ?_
  rintro e w10 ⟨rfl, rfl⟩
  rw [nnb.out]
  go_wp2_with fail
  refine (turn_any b (ng a) lna _).mono ?_
  rintro e w10' ⟨rfl, rfl⟩
  rw [nna.out]
  go_wp2_with fail
  refine (alike_true (a, b) (a, b) ⟨ha, hb⟩ ⟨ha, hb⟩ rfl _).mono ?_
  rintro e w11 ⟨rfl, rfl⟩
  go_wp2_with fail
  refine (conj_any a b hb _).mono ?_
  rintro e w11' ⟨rfl, rfl⟩
  go_wp2_with fail
  refine (conj_any a (ng b) lnb _).mono ?_
  rintro e w12 ⟨rfl, rfl⟩
  rw [nnb.out]
  go_wp2_with fail
  refine (alike_true (a, b) (a, b) ⟨ha, hb⟩ ⟨ha, hb⟩ rfl _).mono ?_
  rintro e w12' ⟨rfl, rfl⟩
  go_wp2_with fail
  refine (turn_any a b hb _).mono ?_
  rintro e w13 ⟨rfl, rfl⟩
  go_wp2_with fail
  refine (turn_any (ng b) a ha _).mono ?_
  rintro e w13' ⟨rfl, rfl⟩
  have ga := negFloat_ng a ha
  have gb := negFloat_ng b hb
  go_wp2_with fail
  refine (alike_true (ng a, ng b) (ng a, ng b) ⟨lna, lnb⟩ ⟨lna, lnb⟩ rfl _).mono ?_
  rintro e w14 ⟨rfl, rfl⟩
  clear ga gb
  go_wp2_with fail
  obtain ⟨w15, hw15, hb15, u0, u1, u2⟩ : ∃ x, w13'.alloc (.cells #[.complex .f64 a b, .complex .f64 c d, .complex .f64 a b] 25) = x ∧ But [] w13' x ∧ x.cell? ⟨w13'.heap.size, 0, none⟩ = some (.complex .f64 a b) ∧ x.cell? ⟨w13'.heap.size, 1, none⟩ = some (.complex .f64 c d) ∧ x.cell? ⟨w13'.heap.size, 2, none⟩ = some (.complex .f64 a b) := ⟨_, rfl, (But.refl _ _).alloc _, by simp [go_sem], by simp [go_sem], by simp [go_sem]⟩
  rw [hw15]
  refine (unlike_any (a, b) (c, d) ⟨ha, hb⟩ ⟨hc, hd⟩ w13'.heap.size 3 w15 u0 u1 u2).mono ?_
  rintro e w16 ⟨v, ys, rfl, hor, hys, hb16⟩
  have hn0 : 0 < n3 (a, b) (c, d) := by unfold n3; split <;> (try split) <;> omega
  rcases hor.form with ⟨_, h⟩ | ⟨gl, kl, rfl, hgl, hkl, hoc⟩
  · omega
  obtain ⟨z, hz, wz, ez⟩ := hoc.rc.one 0 (by omega)
  have EZ := Lib.hid (ez.trans hys)
  have hb0 : But [] w w16 := ((hb5.trans hb6).trans hb15).trans hb16
  clear hw15 u0 u1 u2 hor hoc hys ez hb15 hb16 hb5 hb6 hgl
  have x1 : (FloatKind.f64.format.order a c == some Ordering.eq) = true → (FloatKind.f64.format.order a a == some Ordering.eq) = true := feq_self ha hc
  have x2 : (FloatKind.f64.format.order b d == some Ordering.eq) = true → (FloatKind.f64.format.order b b == some Ordering.eq) = true := feq_self hb hd
  have key : ((FloatKind.f64.format.order a a == some Ordering.eq) = false ∧ (FloatKind.f64.format.order a c == some Ordering.eq) = false ∧ n3 (a, b) (c, d) = 3) ∨ ((FloatKind.f64.format.order b b == some Ordering.eq) = false ∧ (FloatKind.f64.format.order b d == some Ordering.eq) = false ∧ n3 (a, b) (c, d) = 3) ∨ ((FloatKind.f64.format.order a a == some Ordering.eq) = true ∧ (FloatKind.f64.format.order b b == some Ordering.eq) = true ∧ (FloatKind.f64.format.order a c == some Ordering.eq) = true ∧ (FloatKind.f64.format.order b d == some Ordering.eq) = true ∧ n3 (a, b) (c, d) = 1) ∨ ((FloatKind.f64.format.order a a == some Ordering.eq) = true ∧ (FloatKind.f64.format.order b b == some Ordering.eq) = true ∧ (FloatKind.f64.format.order a c == some Ordering.eq) = false ∧ n3 (a, b) (c, d) = 2) ∨ ((FloatKind.f64.format.order a a == some Ordering.eq) = true ∧ (FloatKind.f64.format.order b b == some Ordering.eq) = true ∧ (FloatKind.f64.format.order b d == some Ordering.eq) = false ∧ n3 (a, b) (c, d) = 2) := by
    unfold n3 ceq Op.floatEq
    generalize (FloatKind.f64.format.order a a == some Ordering.eq) = B1 at *
    generalize (FloatKind.f64.format.order b b == some Ordering.eq) = B2 at *
    generalize (FloatKind.f64.format.order a c == some Ordering.eq) = B3 at *
    generalize (FloatKind.f64.format.order b d == some Ordering.eq) = B4 at *
    revert x1 x2
    cases B1 <;> cases B2 <;> cases B3 <;> cases B4 <;> decide
  clear x1 x2
  rcases key with ⟨f1, f2, hn⟩ | ⟨f1, f2, hn⟩ | ⟨f1, f2, f3, f4, hn⟩ | ⟨f1, f2, f3, hn⟩ | ⟨f1, f2, f3, hn⟩
  · rw [hn] at hn0 hkl ⊢
    go_wp2_with fail
    refine (alike_true z (a, b) wz ⟨ha, hb⟩ EZ.out _).mono ?_
    rintro e w17 ⟨rfl, rfl⟩
    clear f1 f2 hn
    go_wp2_with fail
    refine (mul_any a b c d _).mono ?_
    rintro e w18 ⟨ur, ui, nd3, rfl, hw18, ul1, ul2, ue1, ue2⟩
    have hb18 : But [] w w18 := by rw [hw18]; exact hb0.drewN _
    have UE1 := Lib.hid ue1
    have UE2 := Lib.hid ue2
    clear hw18 ue1 ue2 hb0
    go_wp2_with fail
    refine (conj_any ur ui ul2 _).mono ?_
    rintro e w19 ⟨rfl, rfl⟩
    go_wp2_with fail
    refine (conj_any a b hb _).mono ?_
    rintro e w20 ⟨rfl, rfl⟩
    go_wp2_with fail
    refine (conj_any c d hd _).mono ?_
    rintro e w21 ⟨rfl, rfl⟩
    go_wp2_with fail
    refine (mul_any a (ng b) c (ng d) _).mono ?_
    rintro e w22 ⟨vr, vi, nd4, rfl, hw22, vl1, vl2, ve1, ve2⟩
    have hb22 : But [] w w22 := by rw [hw22]; exact hb18.drewN _
    have HO := Lib.hid (conj_orders (pr := pr) (pi := pi) hb hd PE1.out PE2.out UE1.out UE2.out ve1 ve2 ul1 ul2 vl2)
    clear hw22 ve1 ve2 hb18
    go_wp2_with fail
    refine (tfinite_any (pr, pi) ⟨pl1, pl2⟩ _).mono ?_
    rintro e w23 ⟨rfl, rfl⟩
    cases hpl : (plB pr && plB pi)
    · go_wp2_with fail
      go_ret
      exact ⟨rfl, hb22⟩
    · obtain ⟨o7, o8⟩ := HO.out hpl
      go_wp2_with fail
      go_ret
      exact ⟨rfl, hb22⟩
  · rw [hn] at hn0 hkl ⊢
    go_wp2_with fail
    refine (alike_true z (a, b) wz ⟨ha, hb⟩ EZ.out _).mono ?_
    rintro e w17 ⟨rfl, rfl⟩
    clear f1 f2 hn
    go_wp2_with fail
    refine (mul_any a b c d _).mono ?_
    rintro e w18 ⟨ur, ui, nd3, rfl, hw18, ul1, ul2, ue1, ue2⟩
    have hb18 : But [] w w18 := by rw [hw18]; exact hb0.drewN _
    have UE1 := Lib.hid ue1
    have UE2 := Lib.hid ue2
    clear hw18 ue1 ue2 hb0
    go_wp2_with fail
    refine (conj_any ur ui ul2 _).mono ?_
    rintro e w19 ⟨rfl, rfl⟩
    go_wp2_with fail
    refine (conj_any a b hb _).mono ?_
    rintro e w20 ⟨rfl, rfl⟩
    go_wp2_with fail
    refine (conj_any c d hd _).mono ?_
    rintro e w21 ⟨rfl, rfl⟩
    go_wp2_with fail
    refine (mul_any a (ng b) c (ng d) _).mono ?_
    rintro e w22 ⟨vr, vi, nd4, rfl, hw22, vl1, vl2, ve1, ve2⟩
    have hb22 : But [] w w22 := by rw [hw22]; exact hb18.drewN _
    have HO := Lib.hid (conj_orders (pr := pr) (pi := pi) hb hd PE1.out PE2.out UE1.out UE2.out ve1 ve2 ul1 ul2 vl2)
    clear hw22 ve1 ve2 hb18
    go_wp2_with fail
    refine (tfinite_any (pr, pi) ⟨pl1, pl2⟩ _).mono ?_
    rintro e w23 ⟨rfl, rfl⟩
    cases hpl : (plB pr && plB pi)
    · go_wp2_with fail
      go_ret
      exact ⟨rfl, hb22⟩
    · obtain ⟨o7, o8⟩ := HO.out hpl
      go_wp2_with fail
      go_ret
      exact ⟨rfl, hb22⟩
  · rw [hn] at hn0 hkl ⊢
    go_wp2_with fail
    refine (alike_true z (a, b) wz ⟨ha, hb⟩ EZ.out _).mono ?_
    rintro e w17 ⟨rfl, rfl⟩
    clear f1 f2 f3 f4 hn
    go_wp2_with fail
    refine (mul_any a b c d _).mono ?_
    rintro e w18 ⟨ur, ui, nd3, rfl, hw18, ul1, ul2, ue1, ue2⟩
    have hb18 : But [] w w18 := by rw [hw18]; exact hb0.drewN _
    have UE1 := Lib.hid ue1
    have UE2 := Lib.hid ue2
    clear hw18 ue1 ue2 hb0
    go_wp2_with fail
    refine (conj_any ur ui ul2 _).mono ?_
    rintro e w19 ⟨rfl, rfl⟩
    go_wp2_with fail
    refine (conj_any a b hb _).mono ?_
    rintro e w20 ⟨rfl, rfl⟩
    go_wp2_with fail
    refine (conj_any c d hd _).mono ?_
    rintro e w21 ⟨rfl, rfl⟩
    go_wp2_with fail
    refine (mul_any a (ng b) c (ng d) _).mono ?_
    rintro e w22 ⟨vr, vi, nd4, rfl, hw22, vl1, vl2, ve1, ve2⟩
    have hb22 : But [] w w22 := by rw [hw22]; exact hb18.drewN _
    have HO := Lib.hid (conj_orders (pr := pr) (pi := pi) hb hd PE1.out PE2.out UE1.out UE2.out ve1 ve2 ul1 ul2 vl2)
    clear hw22 ve1 ve2 hb18
    go_wp2_with fail
    refine (tfinite_any (pr, pi) ⟨pl1, pl2⟩ _).mono ?_
    rintro e w23 ⟨rfl, rfl⟩
    cases hpl : (plB pr && plB pi)
    · go_wp2_with fail
      go_ret
      exact ⟨rfl, hb22⟩
    · obtain ⟨o7, o8⟩ := HO.out hpl
      go_wp2_with fail
      go_ret
      exact ⟨rfl, hb22⟩
  · rw [hn] at hn0 hkl ⊢
    go_wp2_with fail
    refine (alike_true z (a, b) wz ⟨ha, hb⟩ EZ.out _).mono ?_
    rintro e w17 ⟨rfl, rfl⟩
    clear f1 f2 f3 hn
    go_wp2_with fail
    refine (mul_any a b c d _).mono ?_
    rintro e w18 ⟨ur, ui, nd3, rfl, hw18, ul1, ul2, ue1, ue2⟩
    have hb18 : But [] w w18 := by rw [hw18]; exact hb0.drewN _
    have UE1 := Lib.hid ue1
    have UE2 := Lib.hid ue2
    clear hw18 ue1 ue2 hb0
    go_wp2_with fail
    refine (conj_any ur ui ul2 _).mono ?_
    rintro e w19 ⟨rfl, rfl⟩
    go_wp2_with fail
    refine (conj_any a b hb _).mono ?_
    rintro e w20 ⟨rfl, rfl⟩
    go_wp2_with fail
    refine (conj_any c d hd _).mono ?_
    rintro e w21 ⟨rfl, rfl⟩
    go_wp2_with fail
    refine (mul_any a (ng b) c (ng d) _).mono ?_
    rintro e w22 ⟨vr, vi, nd4, rfl, hw22, vl1, vl2, ve1, ve2⟩
    have hb22 : But [] w w22 := by rw [hw22]; exact hb18.drewN _
    have HO := Lib.hid (conj_orders (pr := pr) (pi := pi) hb hd PE1.out PE2.out UE1.out UE2.out ve1 ve2 ul1 ul2 vl2)
    clear hw22 ve1 ve2 hb18
    go_wp2_with fail
    refine (tfinite_any (pr, pi) ⟨pl1, pl2⟩ _).mono ?_
    rintro e w23 ⟨rfl, rfl⟩
    cases hpl : (plB pr && plB pi)
    · go_wp2_with fail
      go_ret
      exact ⟨rfl, hb22⟩
    · obtain ⟨o7, o8⟩ := HO.out hpl
      go_wp2_with fail
      go_ret
      exact ⟨rfl, hb22⟩
  · rw [hn] at hn0 hkl ⊢
    go_wp2_with fail
    refine (alike_true z (a, b) wz ⟨ha, hb⟩ EZ.out _).mono ?_
    rintro e w17 ⟨rfl, rfl⟩
    clear f1 f2 f3 hn
    go_wp2_with fail
    refine (mul_any a b c d _).mono ?_
    rintro e w18 ⟨ur, ui, nd3, rfl, hw18, ul1, ul2, ue1, ue2⟩
    have hb18 : But [] w w18 := by rw [hw18]; exact hb0.drewN _
    have UE1 := Lib.hid ue1
    have UE2 := Lib.hid ue2
    clear hw18 ue1 ue2 hb0
    go_wp2_with fail
    refine (conj_any ur ui ul2 _).mono ?_
    rintro e w19 ⟨rfl, rfl⟩
    go_wp2_with fail
    refine (conj_any a b hb _).mono ?_
    rintro e w20 ⟨rfl, rfl⟩
    go_wp2_with fail
    refine (conj_any c d hd _).mono ?_
    rintro e w21 ⟨rfl, rfl⟩
    go_wp2_with fail
    refine (mul_any a (ng b) c (ng d) _).mono ?_
    rintro e w22 ⟨vr, vi, nd4, rfl, hw22, vl1, vl2, ve1, ve2⟩
    have hb22 : But [] w w22 := by rw [hw22]; exact hb18.drewN _
    have HO := Lib.hid (conj_orders (pr := pr) (pi := pi) hb hd PE1.out PE2.out UE1.out UE2.out ve1 ve2 ul1 ul2 vl2)
    clear hw22 ve1 ve2 hb18
    go_wp2_with fail
    refine (tfinite_any (pr, pi) ⟨pl1, pl2⟩ _).mono ?_
    rintro e w23 ⟨rfl, rfl⟩
    cases hpl : (plB pr && plB pi)
    · go_wp2_with fail
      go_ret
      exact ⟨rfl, hb22⟩
    · obtain ⟨o7, o8⟩ := HO.out hpl
      go_wp2_with fail
      go_ret
      exact ⟨rfl, hb22⟩
end Go.Proofs.Ytnmpofjegepmaaa
