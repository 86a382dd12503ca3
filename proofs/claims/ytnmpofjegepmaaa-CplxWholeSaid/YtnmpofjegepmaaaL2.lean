/- quaverlaw03.awake. -/
import Derived.Test.YtnmpofjegepmaaaL1
namespace Go.Proofs.Ytnmpofjegepmaaa
open Go.RowKit Go.Proofs.Ytnmpofjegepmaaa.Fl Go.Proofs.Ytnmpofjegepmaaa.Pt

theorem inf1_any (w : World) : Calls Try.prog 32 #[.int .i64 1] w fun e w' => e = .returned (.float .f64 9218868437227405312) ∧ w' = w := by
  go_enter Try.func32, Try.ntmps32
  go_wp2
  go_ret
  exact ⟨rfl, rfl⟩
theorem corder12_any (w : World) : Calls Try.prog 98 #[.complex .f64 0 4607182418800017408, .complex .f64 0 4611686018427387904] w fun e w' => e = .returned (.int .i64 (-1)) ∧ w' = w := by
  have r1 : ordr (rnk 0) (rnk 0) = 0 := by decide +kernel
  have r2 : ordr (rnk 4607182418800017408) (rnk 4611686018427387904) = -1 := by decide +kernel
  have R1 := Lib.hid r1
  have R2 := Lib.hid r2
  clear r1 r2
  go_enter Try.func98, Try.ntmps98
  go_wp2_with fail
  refine (porder_any 0 0 (by decide) (by decide) _).mono ?_
  rintro e w' ⟨rfl, rfl⟩
  rw [R1.out]
  go_wp2_with fail
  refine (porder_any 4607182418800017408 4611686018427387904 (by decide) (by decide) _).mono ?_
  rintro e w' ⟨rfl, rfl⟩
  rw [R2.out]
  go_wp2_with fail
  go_ret
  exact ⟨rfl, rfl⟩
theorem a_re : MR 4607182418800017408 4611686018427387904 4613937818241073152 4616189618054758400 = 13840687554816376832 := by decide +kernel
theorem a_im : MI 4607182418800017408 4611686018427387904 4613937818241073152 4616189618054758400 = 4621819117588971520 := by decide +kernel
theorem d_re : N2 .quo (N2 .add 4616189618054758400 (N2 .mul 4611686018427387904 (N2 .quo 0 4611686018427387904))) (N2 .add 4611686018427387904 (N2 .mul 0 (N2 .quo 0 4611686018427387904))) = 4611686018427387904 := by decide +kernel
theorem d_im : N2 .quo (N2 .sub 4611686018427387904 (N2 .mul 4616189618054758400 (N2 .quo 0 4611686018427387904))) (N2 .add 4611686018427387904 (N2 .mul 0 (N2 .quo 0 4611686018427387904))) = 4607182418800017408 := by decide +kernel

set_option maxRecDepth 100000 in
theorem awake03_any (w : World) : Calls Try.prog 61 #[] w fun e w' => e = .returned (.bool true) ∧ But [] w w' := by
  have p1 : FloatKind.f64.format.order 13840687554816376832 13840687554816376832 = some Ordering.eq := by decide +kernel
  have p2 : FloatKind.f64.format.order 4621819117588971520 4621819117588971520 = some Ordering.eq := by decide +kernel
  have p3 : FloatKind.f64.format.order 4617315517961601024 4617315517961601024 = some Ordering.eq := by decide +kernel
  have p4 : FloatKind.f64.format.order 4611686018427387904 4611686018427387904 = some Ordering.eq := by decide +kernel
  have p5 : FloatKind.f64.format.order 4607182418800017408 4607182418800017408 = some Ordering.eq := by decide +kernel
  have hn : n3 (4607182418800017408, 0) (4611686018427387904, 0) = 2 := by decide +kernel
  have hmax : max ((cls 0 : Nat) : Int) ((cls 9218868437227405312 : Nat) : Int) = 3 := by decide +kernel
  have HN := Lib.hid hn
  have HM := Lib.hid hmax
  clear hn hmax
  go_enter Try.func61, Try.ntmps61
  go_wp2_with fail
  refine (mul_any _ _ _ _ _).mono ?_
  rintro e w1 ⟨re, im, nd, rfl, hw1, l1, l2, e1, e2⟩
  obtain rfl := cn_eq (e1.trans a_re) (by decide)
  obtain rfl := cn_eq (e2.trans a_im) (by decide)
  have hb1 : But [] w w1 := by rw [hw1]; exact (But.refl _ _).drewN _
  clear hw1 e1 e2
  go_wp2_with fail
  refine (abs5p_any _).mono ?_
  rintro e w2 ⟨rfl, hb2⟩
  go_wp2_with fail
  refine (sqrt34_any _).mono ?_
  rintro e w3 ⟨rfl, hb3⟩
  go_wp2_with fail
  refine (div_ge 4616189618054758400 4611686018427387904 4611686018427387904 0 (by decide) (by decide) _ (.inl (by decide +kernel))).mono ?_
  rintro e w4 ⟨re, im, nd, rfl, hw4, l1, l2, e1, e2⟩
  obtain rfl := cn_eq (e1.trans d_re) (by decide)
  obtain rfl := cn_eq (e2.trans d_im) (by decide)
  have hb4 : But [] w3 w4 := by rw [hw4]; exact (But.refl _ _).drewN _
  clear hw4 e1 e2
  go_wp2_with fail
  refine (inf1_any _).mono ?_
  rintro e w5 ⟨rfl, rfl⟩
  go_wp2_with fail
  refine (cof_any 0 9218868437227405312 (by decide) (by decide) _).mono ?_
  rintro e w6 ⟨rfl, rfl⟩
  rw [HM.out]
  go_wp2_with fail
  refine (corder12_any _).mono ?_
  rintro e w7 ⟨rfl, rfl⟩
  go_wp2_with fail
  obtain ⟨w8, hw8, hb8, u0, u1, u2⟩ : ∃ x, w7.alloc (.cells #[.complex .f64 4607182418800017408 0, .complex .f64 4611686018427387904 0, .complex .f64 4607182418800017408 0] 25) = x ∧ But [] w7 x ∧ x.cell? ⟨w7.heap.size, 0, none⟩ = some (.complex .f64 4607182418800017408 0) ∧ x.cell? ⟨w7.heap.size, 1, none⟩ = some (.complex .f64 4611686018427387904 0) ∧ x.cell? ⟨w7.heap.size, 2, none⟩ = some (.complex .f64 4607182418800017408 0) := ⟨_, rfl, (But.refl _ _).alloc _, by simp [go_sem], by simp [go_sem], by simp [go_sem]⟩
  rw [hw8]
  refine (unlike_any (4607182418800017408, 0) (4611686018427387904, 0) ⟨by decide, by decide⟩ ⟨by decide, by decide⟩ w7.heap.size 3 w8 u0 u1 u2).mono ?_
  rintro e w9 ⟨v, ys, rfl, hor, hys, hb9⟩
  rw [HN.out] at hor
  rcases hor.form with ⟨_, h⟩ | ⟨gl, kl, rfl, hgl, hkl, hoc⟩
  · omega
  clear hoc hor u0 u1 u2 hw8
  go_wp2_with fail
  go_ret
  exact ⟨rfl, ((((hb1.trans hb2).trans hb3).trans hb4).trans hb8).trans hb9⟩
end Go.Proofs.Ytnmpofjegepmaaa
