/- WholeMagnitudes: the walk, of nought. -/
import Derived.Test.YtnmpofjegepmaaaS7
namespace Go.Proofs.Ytnmpofjegepmaaa
open Go.RowKit Go.Proofs.Ytnmpofjegepmaaa.Fl Go.Proofs.Ytnmpofjegepmaaa.Pt Go.Proofs.Ytnmpofjegepmaaa.Mag

def q0R (x2 : Nat) : Nat := N2 .sub (N2 .mul 0 0) (N2 .mul x2 x2)
def q0I (x2 : Nat) : Nat := N2 .add (N2 .mul 0 x2) (N2 .mul x2 0)
theorem nought_ways {x : Nat} (h : fin x) (h0 : x % SG = 0) : x = 0 ∨ x = SG := by
  have h1 := h.1
  have h2 : x % 9223372036854775808 = 0 := h0
  show x = 0 ∨ x = 9223372036854775808
  omega
theorem nought_q {x2 : Nat} (h : x2 = 0 ∨ x2 = SG) : fin (q0R x2) ∧ fin (q0I x2) := by
  rcases h with rfl | rfl
  · exact ⟨⟨by decide +kernel, by decide +kernel⟩, ⟨by decide +kernel, by decide +kernel⟩⟩
  · exact ⟨⟨by decide +kernel, by decide +kernel⟩, ⟨by decide +kernel, by decide +kernel⟩⟩
theorem nought_e {x1 x2 : Nat} (h1 : x1 = 0 ∨ x1 = SG) (h2 : x2 = 0 ∨ x2 = SG) : fin (N2 .sub (q0R x2) x1) ∧ N2 .sub (q0R x2) x1 % SG = 0 ∧ fin (N2 .sub (q0I x2) x2) ∧ N2 .sub (q0I x2) x2 % SG = 0 := by
  rcases h1 with rfl | rfl <;> rcases h2 with rfl | rfl <;> exact ⟨⟨by decide +kernel, by decide +kernel⟩, by decide +kernel, ⟨by decide +kernel, by decide +kernel⟩, by decide +kernel⟩
theorem mul_t0 : N2 .mul 4611686018427387904 0 = 0 := by decide +kernel
theorem mul_c0 : N2 .mul 0 4391009636686233600 = 0 := by decide +kernel

set_option linter.unusedSimpArgs false in
set_option maxHeartbeats 4000000 in
set_option maxRecDepth 100000 in
theorem mags_zero (b1 b2 : Int) (x1 x2 : Nat) (f1 : fin x1) (f2 : fin x2) (hR : x1 % SG = 0) (hI : x2 % SG = 0) (w w0 : World)
    (t1 : ∀ w, Calls Try.prog 66 #[.int .u64 b1] w fun e w' => e = .returned (.float .f64 x1) ∧ w' = w) (t2 : ∀ w, Calls Try.prog 66 #[.int .u64 b2] w fun e w' => e = .returned (.float .f64 x2) ∧ w' = w) (hw : But [] w0 w) :
    Calls Try.prog 11 #[.int .u64 b1, .int .u64 b2] w fun e w' => e = .returned (.bool true) ∧ But [] w0 w' := by
  have l1 := f1.1
  have l2 := f2.1
  have a1 := abs_any x1 l1
  have a2 := abs_any x2 l2
  rw [show x1 % 9223372036854775808 = 0 from hR] at a1
  rw [show x2 % 9223372036854775808 = 0 from hI] at a2
  have A1 := Lib.hid a1
  have A2 := Lib.hid a2
  have F1 := Lib.hid f1
  have F2 := Lib.hid f2
  have HR := Lib.hid hR
  have HI := Lib.hid hI
  have z1 := Lib.hid (ord0 f1 hR)
  have z2 := Lib.hid (ord0 f2 hI)
  have T1 := Lib.hid t1
  have T2 := Lib.hid t2
  have W1 := Lib.hid (nought_ways f1 hR)
  have W2' := Lib.hid (nought_ways f2 hI)
  clear a1 a2 f1 f2 hR hI t1 t2
  go_enter Try.func11, Try.ntmps11
  go_wp2_with fail
  refine (T1.out _).mono ?_
  rintro e w' ⟨rfl, rfl⟩
  go_wp2_with fail
  refine (T2.out _).mono ?_
  rintro e w' ⟨rfl, rfl⟩
  go_wp2_with fail
  refine (cabs_any F1.out F2.out HR.out HI.out (Nat.zero_le _) (Nat.zero_le _) _).mono ?_
  rintro e w' ⟨m, rfl, hCA, rfl⟩
  obtain rfl := CA_one hCA (.inl ⟨rfl, rfl, rfl⟩)
  clear hCA
  go_wp2_with fail
  refine (A1.out _).mono ?_
  rintro e w' ⟨rfl, rfl⟩
  go_wp2_with fail
  refine (A2.out _).mono ?_
  rintro e w' ⟨rfl, rfl⟩
  have o0 : FloatKind.f64.format.order 0 0 = some Ordering.eq := by decide +kernel
  have e1 := fun w => run_num (P := Try.prog) (op := .mul) mul_t0.symm (by decide) 31 w (by simp)
  have HM := Lib.hid (fun w => mmax_any (X := 0) (Y := 0) (by decide) (by decide) w)
  go_wp2_with fail
  refine (HM.out _).mono ?_
  rintro e w' ⟨rfl, rfl⟩
  rw [show max 0 0 = 0 from rfl]
  have z3 : (FloatKind.f64.format.order x1 0 == some Ordering.eq) = true := z1.out.trans (by decide)
  have z4 : (FloatKind.f64.format.order x2 0 == some Ordering.eq) = true := z2.out.trans (by decide)
  go_wp2_with fail
  clear e1 z3 z4
  have tr1 : Tm (x1 % SG) := .inl HR.out
  have tr2 : Tm (x2 % SG) := .inl HI.out
  have T3 := Lib.hid tr1
  have T4 := Lib.hid tr2
  clear tr1 tr2
  refine (div1_any F1.out F2.out T3.out T4.out _).mono ?_
  rintro e w3 ⟨re1, im1, n1, rfl, rfl, lr1, li1, or1, oi1⟩
  have hbq := hw.drewN n1
  generalize w'.drewN n1 = wq at *
  go_wp2_with fail
  refine (alike_any (re1, im1) (x1, x2) ⟨lr1, li1⟩ ⟨l1, l2⟩ _).mono ?_
  rintro e w4 ⟨rfl, rfl⟩
  cases hB : eqC (re1, im1) (x1, x2)
  case false =>
    go_wp2_with fail
    refine (div1_any F1.out F2.out T3.out T4.out _).mono ?_
    rintro e w3 ⟨re2, im2, n2, rfl, rfl, lr2, li2, or2, oi2⟩
    have hbz := hbq.drewN n2
    generalize wq.drewN n2 = wz at *
    go_wp2_with fail
    clear lr2 li2 or2 oi2 hB or1 oi1 lr1 li1 hbq
    refine (turn_any x1 x2 l2 _).mono ?_
    rintro e w5 ⟨rfl, rfl⟩
    go_wp2_with fail
    refine (divi1_any F1.out F2.out T3.out T4.out _).mono ?_
    rintro e w6 ⟨re3, im3, n3, rfl, rfl, lr3, li3, or3, oi3⟩
    have hb3 := hbz.drewN n3
    generalize w5.drewN n3 = w6 at *
    go_wp2_with fail
    clear lr3 li3 or3 oi3
    refine (csqrt0_any HR.out HI.out F1.out F2.out _).mono ?_
    rintro e w7 ⟨rfl, rfl⟩
    obtain ⟨fq1, fq2⟩ := nought_q W2'.out
    obtain ⟨fe1, me1, fe2, me2⟩ := nought_e W1.out W2'.out
    have FQ1 := Lib.hid fq1
    have FQ2 := Lib.hid fq2
    have FE1 := Lib.hid fe1
    have FE2 := Lib.hid fe2
    have ME1 := Lib.hid me1
    have ME2 := Lib.hid me2
    clear fq1 fq2 fe1 fe2 me1 me2
    go_wp2_with fail
    refine (mul_any 0 x2 0 x2 _).mono ?_
    rintro e w8 ⟨q1, q2, n4, rfl, rfl, lq1, lq2, eq1, eq2⟩
    have hb4 := hb3.drewN n4
    generalize w7.drewN n4 = w8 at *
    have h1 : q1 = q0R x2 := cn_eq eq1 (fin_nan FQ1.out)
    have h2 : q2 = q0I x2 := cn_eq eq2 (fin_nan FQ2.out)
    rw [← h1] at FQ1 FE1 ME1
    rw [← h2] at FQ2 FE2 ME2
    clear eq1 eq2 h1 h2
    have hsub := fun W => csub_fin (P := Try.prog) 25 FQ1.out FQ2.out F1.out F2.out W
    go_wp2_with fail
    clear hsub
    refine (cabs_any FE1.out FE2.out ME1.out ME2.out (Nat.zero_le _) (Nat.zero_le _) _).mono ?_
    rintro e w9 ⟨F, rfl, hCF, rfl⟩
    obtain rfl := CA_one hCF (.inl ⟨rfl, rfl, rfl⟩)
    have e5 := fun w => run_num (P := Try.prog) (op := .mul) mul_c0.symm (by decide) 31 w (by simp)
    clear hCF
    have four : EX 4616189618054758400 (((2 * 2 : Nat) : Int)) 1074 := by refine ⟨⟨by decide, by decide⟩, ?_⟩; decide +kernel
    have HS := Lib.hid (fun w => csqrt_pos (k := 2) four (by decide) w)
    clear four
    go_wp2_with fail
    refine (HS.out _).mono ?_
    rintro e w10 ⟨u1, u2, rfl, hb10, eu1, eu2⟩
    have o7 := eu1.ord two_ex
    have o8 := eu2.ord (z_ex 1074)
    clear eu1 eu2
    go_wp2_with fail
    go_ret
    exact ⟨rfl, hb4.trans hb10⟩
  case true =>
    go_wp2_with fail
    clear hB or1 oi1 lr1 li1
    refine (turn_any x1 x2 l2 _).mono ?_
    rintro e w5 ⟨rfl, rfl⟩
    go_wp2_with fail
    refine (divi1_any F1.out F2.out T3.out T4.out _).mono ?_
    rintro e w6 ⟨re3, im3, n3, rfl, rfl, lr3, li3, or3, oi3⟩
    have hb3 := hbq.drewN n3
    generalize w5.drewN n3 = w6 at *
    go_wp2_with fail
    clear lr3 li3 or3 oi3
    refine (csqrt0_any HR.out HI.out F1.out F2.out _).mono ?_
    rintro e w7 ⟨rfl, rfl⟩
    obtain ⟨fq1, fq2⟩ := nought_q W2'.out
    obtain ⟨fe1, me1, fe2, me2⟩ := nought_e W1.out W2'.out
    have FQ1 := Lib.hid fq1
    have FQ2 := Lib.hid fq2
    have FE1 := Lib.hid fe1
    have FE2 := Lib.hid fe2
    have ME1 := Lib.hid me1
    have ME2 := Lib.hid me2
    clear fq1 fq2 fe1 fe2 me1 me2
    go_wp2_with fail
    refine (mul_any 0 x2 0 x2 _).mono ?_
    rintro e w8 ⟨q1, q2, n4, rfl, rfl, lq1, lq2, eq1, eq2⟩
    have hb4 := hb3.drewN n4
    generalize w7.drewN n4 = w8 at *
    have h1 : q1 = q0R x2 := cn_eq eq1 (fin_nan FQ1.out)
    have h2 : q2 = q0I x2 := cn_eq eq2 (fin_nan FQ2.out)
    rw [← h1] at FQ1 FE1 ME1
    rw [← h2] at FQ2 FE2 ME2
    clear eq1 eq2 h1 h2
    have hsub := fun W => csub_fin (P := Try.prog) 25 FQ1.out FQ2.out F1.out F2.out W
    go_wp2_with fail
    clear hsub
    refine (cabs_any FE1.out FE2.out ME1.out ME2.out (Nat.zero_le _) (Nat.zero_le _) _).mono ?_
    rintro e w9 ⟨F, rfl, hCF, rfl⟩
    obtain rfl := CA_one hCF (.inl ⟨rfl, rfl, rfl⟩)
    have e5 := fun w => run_num (P := Try.prog) (op := .mul) mul_c0.symm (by decide) 31 w (by simp)
    clear hCF
    have four : EX 4616189618054758400 (((2 * 2 : Nat) : Int)) 1074 := by refine ⟨⟨by decide, by decide⟩, ?_⟩; decide +kernel
    have HS := Lib.hid (fun w => csqrt_pos (k := 2) four (by decide) w)
    clear four
    go_wp2_with fail
    refine (HS.out _).mono ?_
    rintro e w10 ⟨u1, u2, rfl, hb10, eu1, eu2⟩
    have o7 := eu1.ord two_ex
    have o8 := eu2.ord (z_ex 1074)
    clear eu1 eu2
    go_wp2_with fail
    go_ret
    exact ⟨rfl, hb4.trans hb10⟩

/-- All of it. -/
theorem mags_any (b1 b2 : Int) (h1 : 0 ≤ b1) (h2 : b1 < 18446744073709551616) (h3 : 0 ≤ b2) (h4 : b2 < 18446744073709551616) (w : World) :
    Calls Try.prog 11 #[.int .u64 b1, .int .u64 b2] w fun e w' => e = .returned (.bool true) ∧ But [] w w' := by
  obtain ⟨a, rfl, ha⟩ : ∃ a : Nat, b1 = a ∧ a < 18446744073709551616 := ⟨b1.toNat, by omega, by omega⟩
  obtain ⟨b, rfl, hb⟩ : ∃ b : Nat, b2 = b ∧ b < 18446744073709551616 := ⟨b2.toNat, by omega, by omega⟩
  obtain ⟨f1, t1⟩ := tmv_fin a ha
  obtain ⟨f2, t2⟩ := tmv_fin b hb
  by_cases h0 : tmv a % SG = 0 ∧ tmv b % SG = 0
  · exact mags_zero _ _ _ _ f1 f2 h0.1 h0.2 w w (fun w => tame_any a ha w) (fun w => tame_any b hb w) (But.refl _ _)
  · exact mags_tail _ _ _ _ _ _ f1 f2 rfl rfl t1 t2 h0 w w (fun w => tame_any a ha w) (fun w => tame_any b hb w) (But.refl _ _)
end Go.Proofs.Ytnmpofjegepmaaa
