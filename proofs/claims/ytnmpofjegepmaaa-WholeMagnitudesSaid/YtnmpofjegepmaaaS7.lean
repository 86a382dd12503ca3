/- WholeMagnitudes: the walk, of numbers that are not nought. -/
import Derived.Test.YtnmpofjegepmaaaS6
namespace Go.Proofs.Ytnmpofjegepmaaa
open Go.RowKit Go.Proofs.Ytnmpofjegepmaaa.Fl Go.Proofs.Ytnmpofjegepmaaa.Pt Go.Proofs.Ytnmpofjegepmaaa.Mag

set_option linter.unusedSimpArgs false in
set_option maxHeartbeats 4000000 in
set_option maxRecDepth 100000 in
theorem mags_tail (b1 b2 : Int) (x1 x2 R I : Nat) (f1 : fin x1) (f2 : fin x2) (hR : x1 % SG = R) (hI : x2 % SG = I) (tR : Tm R) (tI : Tm I) (h0 : ¬ (R = 0 ∧ I = 0)) (w w0 : World)
    (t1 : ∀ w, Calls Try.prog 66 #[.int .u64 b1] w fun e w' => e = .returned (.float .f64 x1) ∧ w' = w) (t2 : ∀ w, Calls Try.prog 66 #[.int .u64 b2] w fun e w' => e = .returned (.float .f64 x2) ∧ w' = w) (hw : But [] w0 w) :
    Calls Try.prog 11 #[.int .u64 b1, .int .u64 b2] w fun e w' => e = .returned (.bool true) ∧ But [] w0 w' := by
  have l1 := f1.1
  have l2 := f2.1
  have hRI : R < INF := by rw [← hR]; exact f1.2
  have hII : I < INF := by rw [← hI]; exact f2.2
  have a1 := abs_any x1 l1
  have a2 := abs_any x2 l2
  rw [show x1 % 9223372036854775808 = R from hR] at a1
  rw [show x2 % 9223372036854775808 = I from hI] at a2
  have A1 := Lib.hid a1
  have A2 := Lib.hid a2
  have F1 := Lib.hid f1
  have F2 := Lib.hid f2
  have HR := Lib.hid hR
  have HI := Lib.hid hI
  have z1 := Lib.hid (ord0 f1 hR)
  have z2 := Lib.hid (ord0 f2 hI)
  have T1 := Lib.hid t1
  have T2 := Lib.hid t2
  have TR := Lib.hid tR
  have TI := Lib.hid tI
  clear a1 a2 f1 f2 hR hI t1 t2
  go_enter Try.func11, Try.ntmps11
  go_wp2_with fail
  refine (T1.out _).mono ?_
  rintro e w' ⟨rfl, rfl⟩
  go_wp2_with fail
  refine (T2.out _).mono ?_
  rintro e w' ⟨rfl, rfl⟩
  go_wp2_with fail
  refine (cabs_any F1.out F2.out HR.out HI.out tR.lt tI.lt _).mono ?_
  rintro e w' ⟨m, rfl, hCA, rfl⟩
  obtain ⟨wA, hRA, hIA, hV2, hN⟩ := tame_abs hCA tR tI h0
  have HCA := Lib.hid hCA
  have WA := Lib.hid wA
  have hmI : m < INF := Nat.lt_of_le_of_lt wA.hi (by rw [inf_bin]; exact Nat.mul_lt_mul_of_pos_right (by decide) ON0)
  have hm0 : m ≠ 0 := win_ne wA (by decide)
  have c1 := not_lt hmI hRA
  have c2 := not_lt hmI hIA
  clear hN hCA
  go_wp2_with fail
  refine (A1.out _).mono ?_
  rintro e w' ⟨rfl, rfl⟩
  go_wp2_with fail
  refine (A2.out _).mono ?_
  rintro e w' ⟨rfl, rfl⟩
  -- twice the greater part
  have hmx : max R I < INF := by omega
  have hmxW : Win (max R I) 991 1054 := by
    rcases Nat.le_total R I with h | h
    · rw [Nat.max_eq_right h]; exact tI.resolve_left (by omega)
    · rw [Nat.max_eq_left h]; exact tR.resolve_left (by omega)
  have hON := ON0
  have hlo : ON ≤ max R I := Nat.le_trans (by omega) hmxW.lo
  have hdI : max R I + ON < INF := by
    have h1 := hmxW.hi
    rw [inf_bin]; omega
  have hd := mul_twice hlo hdI
  rw [← V_dbl hlo] at hV2
  have hmd : m ≤ max R I + ON := by
    rcases Nat.lt_or_ge (max R I + ON) m with h | h
    · have := V_lt h; omega
    · exact h
  have c3 := not_gt hdI hmd
  have e1 := fun w => run_num (P := Try.prog) (op := .mul) hd.symm (nanw hdI) 31 w (by simp)
  rw [show TWOw = 4611686018427387904 from rfl] at e1
  have HM := Lib.hid (fun w => mmax_any hRI hII w)
  have oM := ordw_gt hmI (Nat.pos_of_ne_zero hm0)
  clear hd hV2 hmd hdI hlo hON hmxW hmx wA hRA hIA
  generalize hDD : max R I = MX at *
  generalize MX + ON = DD at *
  go_wp2_with fail
  refine (HM.out _).mono ?_
  rintro e w' ⟨rfl, rfl⟩
  have z3 := z1.out
  have z4 := z2.out
  have hz : (decide (R = 0) && decide (I = 0)) = false := by
    cases h1 : decide (R = 0)
    · rfl
    · cases h2 : decide (I = 0)
      · rfl
      · exact absurd ⟨by simpa using h1, by simpa using h2⟩ h0
  generalize decide (R = 0) = BR at *
  generalize decide (I = 0) = BI at *
  go_wp2_with fail
  clear c1 c2 c3 e1 oM z3 z4 hz
  have tr1 : Tm (x1 % SG) := by rw [HR.out]; exact TR.out
  have tr2 : Tm (x2 % SG) := by rw [HI.out]; exact TI.out
  have T3 := Lib.hid tr1
  have T4 := Lib.hid tr2
  clear tr1 tr2
  refine (div1_any F1.out F2.out T3.out T4.out _).mono ?_
  rintro e w3 ⟨re1, im1, n1, rfl, rfl, lr1, li1, or1, oi1⟩
  have hbq := hw.drewN n1
  generalize w'.drewN n1 = wq at *
  go_wp2_with fail
  refine (alike_any (re1, im1) (x1, x2) ⟨lr1, li1⟩ ⟨l1, l2⟩ _).mono ?_
  rintro e w4 ⟨rfl, rfl⟩
  cases hB : eqC (re1, im1) (x1, x2)
  case false =>
    go_wp2_with fail
    refine (div1_any F1.out F2.out T3.out T4.out _).mono ?_
    rintro e w3 ⟨re2, im2, n2, rfl, rfl, lr2, li2, or2, oi2⟩
    have hbz := hbq.drewN n2
    generalize wq.drewN n2 = wz at *
    go_wp2_with fail
    clear lr2 li2 or2 oi2 hB or1 oi1 lr1 li1 hbq
    refine (turn_any x1 x2 l2 _).mono ?_
    rintro e w5 ⟨rfl, rfl⟩
    go_wp2_with fail
    refine (divi1_any F1.out F2.out T3.out T4.out _).mono ?_
    rintro e w6 ⟨re3, im3, n3, rfl, rfl, lr3, li3, or3, oi3⟩
    have hb3 := hbz.drewN n3
    generalize w5.drewN n3 = w6 at *
    go_wp2_with fail
    clear lr3 li3 or3 oi3
    refine (csqrt_tame F1.out F2.out HR.out HI.out TR.out TI.out h0 _).mono ?_
    rintro e w7 ⟨s1, s2, A, rfl, rfl, hCA2, ls1, ls2, hFar⟩
    obtain rfl := CA_one hCA2 HCA.out
    obtain ⟨⟨fq1, fe1, me1⟩, fq2, fe2, me2⟩ := hFar
    have FQ1 := Lib.hid fq1
    have FQ2 := Lib.hid fq2
    have FE1 := Lib.hid fe1
    have FE2 := Lib.hid fe2
    have ME1 := Lib.hid me1
    have ME2 := Lib.hid me2
    clear fq1 fq2 fe1 fe2 me1 me2 hCA2
    go_wp2_with fail
    refine (mul_any s1 s2 s1 s2 _).mono ?_
    rintro e w8 ⟨q1, q2, n4, rfl, rfl, lq1, lq2, eq1, eq2⟩
    have hb4 := hb3.drewN n4
    generalize w7.drewN n4 = w8 at *
    have h1 : q1 = N2 .sub (N2 .mul s1 s1) (N2 .mul s2 s2) := cn_eq eq1 (fin_nan FQ1.out)
    have h2 : q2 = N2 .add (N2 .mul s1 s2) (N2 .mul s2 s1) := cn_eq eq2 (fin_nan FQ2.out)
    rw [← h1] at FQ1 FE1 ME1
    rw [← h2] at FQ2 FE2 ME2
    clear eq1 eq2 h1 h2
    have hsub := fun W => csub_fin (P := Try.prog) 25 FQ1.out FQ2.out F1.out F2.out W
    have hbE : ∀ {E : Nat}, mv E ≤ 153 / 10 * EP * mv A → E ≤ 1900 * ON := by
      intro E h
      have e := mr EP_small (mv_nn A)
      have e0 := mv_nn A
      have h3 : E ≤ A := le_of_mv (by grind)
      exact Nat.le_trans h3 (Nat.le_trans WA.out.hi (Nat.mul_le_mul_right _ (by decide)))
    have HBE1 := Lib.hid (hbE ME1.out)
    have HBE2 := Lib.hid (hbE ME2.out)
    clear hbE
    go_wp2_with fail
    clear hsub
    refine (cabs_any FE1.out FE2.out rfl rfl HBE1.out HBE2.out _).mono ?_
    rintro e w9 ⟨F, rfl, hCF, rfl⟩
    have hFg := far_ok WA.out ME1.out ME2.out hCF
    have hgI := (bound_g WA.out).1
    have e5 := fun w => run_num (P := Try.prog) (op := .mul) rfl (nanw hgI) 31 w (by simp)
    rw [show C48 = 4391009636686233600 from rfl] at e5 hFg hgI
    generalize N2 .mul A 4391009636686233600 = g at *
    clear hCF
    have four : EX 4616189618054758400 (((2 * 2 : Nat) : Int)) 1074 := by refine ⟨⟨by decide, by decide⟩, ?_⟩; decide +kernel
    have HS := Lib.hid (fun w => csqrt_pos (k := 2) four (by decide) w)
    have o5 : (FloatKind.f64.format.order s1 0 = some Ordering.eq) ∨ (FloatKind.f64.format.order s1 0 = some Ordering.gt) := by
      rcases Nat.eq_zero_or_pos s1 with h | h
      · left; rw [h]; decide +kernel
      · right; exact ordw_gt ls1 h
    have o6 : (FloatKind.f64.format.order F g = some Ordering.lt) ∨ (FloatKind.f64.format.order F g = some Ordering.eq) := by
      rcases Nat.lt_or_eq_of_le hFg with h | h
      · left; exact ordw_lt hgI h
      · right; rw [h]; exact ordw_eq hgI
    clear four hFg
    rcases o5 with o5 | o5 <;> rcases o6 with o6 | o6
    all_goals
      go_wp2_with fail
      refine (HS.out _).mono ?_
      rintro e w10 ⟨u1, u2, rfl, hb10, eu1, eu2⟩
      have o7 := eu1.ord two_ex
      have o8 := eu2.ord (z_ex 1074)
      clear eu1 eu2
      go_wp2_with fail
      go_ret
      exact ⟨rfl, hb4.trans hb10⟩
  case true =>
    go_wp2_with fail
    clear hB or1 oi1 lr1 li1
    refine (turn_any x1 x2 l2 _).mono ?_
    rintro e w5 ⟨rfl, rfl⟩
    go_wp2_with fail
    refine (divi1_any F1.out F2.out T3.out T4.out _).mono ?_
    rintro e w6 ⟨re3, im3, n3, rfl, rfl, lr3, li3, or3, oi3⟩
    have hb3 := hbq.drewN n3
    generalize w5.drewN n3 = w6 at *
    go_wp2_with fail
    clear lr3 li3 or3 oi3
    refine (csqrt_tame F1.out F2.out HR.out HI.out TR.out TI.out h0 _).mono ?_
    rintro e w7 ⟨s1, s2, A, rfl, rfl, hCA2, ls1, ls2, hFar⟩
    obtain rfl := CA_one hCA2 HCA.out
    obtain ⟨⟨fq1, fe1, me1⟩, fq2, fe2, me2⟩ := hFar
    have FQ1 := Lib.hid fq1
    have FQ2 := Lib.hid fq2
    have FE1 := Lib.hid fe1
    have FE2 := Lib.hid fe2
    have ME1 := Lib.hid me1
    have ME2 := Lib.hid me2
    clear fq1 fq2 fe1 fe2 me1 me2 hCA2
    go_wp2_with fail
    refine (mul_any s1 s2 s1 s2 _).mono ?_
    rintro e w8 ⟨q1, q2, n4, rfl, rfl, lq1, lq2, eq1, eq2⟩
    have hb4 := hb3.drewN n4
    generalize w7.drewN n4 = w8 at *
    have h1 : q1 = N2 .sub (N2 .mul s1 s1) (N2 .mul s2 s2) := cn_eq eq1 (fin_nan FQ1.out)
    have h2 : q2 = N2 .add (N2 .mul s1 s2) (N2 .mul s2 s1) := cn_eq eq2 (fin_nan FQ2.out)
    rw [← h1] at FQ1 FE1 ME1
    rw [← h2] at FQ2 FE2 ME2
    clear eq1 eq2 h1 h2
    have hsub := fun W => csub_fin (P := Try.prog) 25 FQ1.out FQ2.out F1.out F2.out W
    have hbE : ∀ {E : Nat}, mv E ≤ 153 / 10 * EP * mv A → E ≤ 1900 * ON := by
      intro E h
      have e := mr EP_small (mv_nn A)
      have e0 := mv_nn A
      have h3 : E ≤ A := le_of_mv (by grind)
      exact Nat.le_trans h3 (Nat.le_trans WA.out.hi (Nat.mul_le_mul_right _ (by decide)))
    have HBE1 := Lib.hid (hbE ME1.out)
    have HBE2 := Lib.hid (hbE ME2.out)
    clear hbE
    go_wp2_with fail
    clear hsub
    refine (cabs_any FE1.out FE2.out rfl rfl HBE1.out HBE2.out _).mono ?_
    rintro e w9 ⟨F, rfl, hCF, rfl⟩
    have hFg := far_ok WA.out ME1.out ME2.out hCF
    have hgI := (bound_g WA.out).1
    have e5 := fun w => run_num (P := Try.prog) (op := .mul) rfl (nanw hgI) 31 w (by simp)
    rw [show C48 = 4391009636686233600 from rfl] at e5 hFg hgI
    generalize N2 .mul A 4391009636686233600 = g at *
    clear hCF
    have four : EX 4616189618054758400 (((2 * 2 : Nat) : Int)) 1074 := by refine ⟨⟨by decide, by decide⟩, ?_⟩; decide +kernel
    have HS := Lib.hid (fun w => csqrt_pos (k := 2) four (by decide) w)
    have o5 : (FloatKind.f64.format.order s1 0 = some Ordering.eq) ∨ (FloatKind.f64.format.order s1 0 = some Ordering.gt) := by
      rcases Nat.eq_zero_or_pos s1 with h | h
      · left; rw [h]; decide +kernel
      · right; exact ordw_gt ls1 h
    have o6 : (FloatKind.f64.format.order F g = some Ordering.lt) ∨ (FloatKind.f64.format.order F g = some Ordering.eq) := by
      rcases Nat.lt_or_eq_of_le hFg with h | h
      · left; exact ordw_lt hgI h
      · right; rw [h]; exact ordw_eq hgI
    clear four hFg
    rcases o5 with o5 | o5 <;> rcases o6 with o6 | o6
    all_goals
      go_wp2_with fail
      refine (HS.out _).mono ?_
      rintro e w10 ⟨u1, u2, rfl, hb10, eu1, eu2⟩
      have o7 := eu1.ord two_ex
      have o8 := eu2.ord (z_ex 1074)
      clear eu1 eu2
      go_wp2_with fail
      go_ret
      exact ⟨rfl, hb4.trans hb10⟩
end Go.Proofs.Ytnmpofjegepmaaa
