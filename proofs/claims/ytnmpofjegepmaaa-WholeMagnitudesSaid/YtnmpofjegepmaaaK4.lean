/- math.Ldexp(1, e). -/
import Derived.Test.YtnmpofjegepmaaaK3
import Derived.Test.YtnmpofjegepmaaaG1
import Derived.Test.YtnmpofjegepmaaaD1
namespace Go.Proofs.Ytnmpofjegepmaaa
open Go.RowKit Go.Proofs.Ytnmpofjegepmaaa.Fl Go.Proofs.Ytnmpofjegepmaaa.Pt

theorem norm1_any (w : World) : Calls Try.prog 113 #[.float .f64 4607182418800017408] w fun e w' => e = .returned (.tuple #[.float .f64 4607182418800017408, .int .i64 0]) ∧ w' = w := by
  have o1 : FloatKind.f64.format.order 4607182418800017408 4503599627370496 = some Ordering.gt := by decide +kernel
  go_enter Try.func113, Try.ntmps113
  go_wp2_with fail
  refine (abs_any 4607182418800017408 (by omega) _).mono ?_
  rintro e w' ⟨rfl, rfl⟩
  rw [show (4607182418800017408 % 9223372036854775808 : Nat) = 4607182418800017408 from rfl]
  go_wp2_with fail
  go_ret2
  exact ⟨rfl, rfl⟩
theorem one_mul_w2 : ∀ e, e < 61 → N2 .mul 4607182418800017408 (W2 e) = W2 e := by decide +kernel
theorem ldexp_any (e : Nat) (he : e ≤ 60) (w : World) : Calls Try.prog 100 #[.float .f64 4607182418800017408, .int .i64 (e : Int)] w fun r w' => r = .returned (.float .f64 (W2 e)) ∧ But [] w w' := by
  have o1 : FloatKind.f64.format.order 4607182418800017408 0 = some Ordering.gt := by decide +kernel
  have b1 : bits .and .i64 1023 2047 = 1023 := by decide
  have b2 : bits .andNot .u64 4607182418800017408 9218868437227405312 = 0 := by decide
  have hi : decide ((4607182418800017408 : Nat) % 9223372036854775808 = INF) = false := by decide
  have hn : nan 4607182418800017408 = false := by decide
  have HI := Lib.hid hi
  have HN := Lib.hid hn
  clear hi hn
  go_enter Try.func100, Try.ntmps100
  go_wp2_with fail
  refine (isinf_any 4607182418800017408 (by omega) _).mono ?_
  rintro e2 w' ⟨rfl, rfl⟩
  rw [HI.out]
  go_wp2_with fail
  refine (isnan_any 4607182418800017408 (by omega) _).mono ?_
  rintro e2 w' ⟨rfl, rfl⟩
  rw [HN.out]
  go_wp2_with fail
  refine (norm1_any _).mono ?_
  rintro e2 w' ⟨rfl, rfl⟩
  have b3 : bits .or .u64 0 (((e : Int) + 1023) * 4503599627370496) = ((W2 e : Nat) : Int) := by
    have h : (BitVec.ofInt 64 ((W2 e : Nat) : Int)).toNat = W2 e := by
      rw [BitVec.ofInt_natCast, BitVec.toNat_ofNat]; exact Nat.mod_eq_of_lt (by unfold W2; omega)
    rw [show ((e : Int) + 1023) * 4503599627370496 = ((W2 e : Nat) : Int) by unfold W2; omega]
    show IntKind.u64.wrap ((BitVec.ofInt 64 (0 : Int) ||| BitVec.ofInt 64 ((W2 e : Nat) : Int)).toNat : Int) = _
    rw [BitVec.toNat_or, h, show (BitVec.ofInt 64 (0 : Int)).toNat = 0 by decide, Nat.zero_or, IntKind.wrap_u64]
    unfold W2; omega
  obtain ⟨r, nn, h1, h2, h3⟩ := arith_any (P := Try.prog) w' .mul (by simp) 31 4607182418800017408 (W2 e)
  have hnan : nan (W2 e) = false := by unfold nan W2; simp [INF, SG]; omega
  obtain rfl := cn_eq (h3.trans (one_mul_w2 e (by omega))) hnan
  clear h2 h3
  go_wp2_with fail
  go_ret
  exact ⟨rfl, (But.refl _ _).drewN _⟩
theorem ldexp1_any (e : Nat) (he : e ≤ 60) (w : World) : Calls Try.prog 62 #[.float .f64 4607182418800017408, .int .i64 (e : Int)] w fun r w' => r = .returned (.float .f64 (W2 e)) ∧ But [] w w' := by
  go_enter Try.func62, Try.ntmps62
  go_wp2_with fail
  refine (ldexp_any e he _).mono ?_
  rintro e2 w' ⟨rfl, hb⟩
  go_wp2_with fail
  go_ret
  exact ⟨rfl, hb⟩
end Go.Proofs.Ytnmpofjegepmaaa
