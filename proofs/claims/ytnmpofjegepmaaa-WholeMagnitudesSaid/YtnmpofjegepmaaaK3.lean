/- math.Ldexp(1, e), cplx.Div, cplx.Scale. -/
import Derived.Test.YtnmpofjegepmaaaK2
import Derived.Test.YtnmpofjegepmaaaJ3
namespace Go.Proofs.Ytnmpofjegepmaaa
open Go.RowKit Go.Proofs.Ytnmpofjegepmaaa.Fl Go.Proofs.Ytnmpofjegepmaaa.Pt

theorem half_close' {op : BinOp} {a b c d r1 r2 k : Nat} {w : World} (H1 : Ar op a b r1) (H2 : Ar op c d r2) : CPost (N2 op a b) (N2 op c d) w (.returned (.complex .f64 r1 r2)) (w.drewN k) := ⟨r1, r2, k, rfl, rfl, H1.1, H2.1, H1.2, H2.2⟩
theorem ge_close {ar ai br bi t p1 d p2 p3 p4 p5 r1 r2 n : Nat} {w : World} (H1 : Ar .quo bi br t) (H2 : Ar .mul bi t p1) (H3 : Ar .add br p1 d) (H4 : Ar .mul ai t p2) (H5 : Ar .add ar p2 p3) (H6 : Ar .quo p3 d r1) (H7 : Ar .mul ar t p4) (H8 : Ar .sub ai p4 p5) (H9 : Ar .quo p5 d r2) :
    CPost (N2 .quo (N2 .add ar (N2 .mul ai (N2 .quo bi br))) (N2 .add br (N2 .mul bi (N2 .quo bi br)))) (N2 .quo (N2 .sub ai (N2 .mul ar (N2 .quo bi br))) (N2 .add br (N2 .mul bi (N2 .quo bi br)))) w (.returned (.complex .f64 r1 r2)) (w.drewN n) := by
  have e2 : cn p1 = N2 .mul bi (N2 .quo bi br) := by rw [H2.2, N2_r H1.2]
  have e3 : cn d = N2 .add br (N2 .mul bi (N2 .quo bi br)) := by rw [H3.2, N2_r e2]
  have e4 : cn p2 = N2 .mul ai (N2 .quo bi br) := by rw [H4.2, N2_r H1.2]
  have e5 : cn p3 = N2 .add ar (N2 .mul ai (N2 .quo bi br)) := by rw [H5.2, N2_r e4]
  have e7 : cn p4 = N2 .mul ar (N2 .quo bi br) := by rw [H7.2, N2_r H1.2]
  have e8 : cn p5 = N2 .sub ai (N2 .mul ar (N2 .quo bi br)) := by rw [H8.2, N2_r e7]
  exact ⟨r1, r2, n, rfl, rfl, H6.1, H9.1, by rw [H6.2, N2_l e5, N2_r e3], by rw [H9.2, N2_l e8, N2_r e3]⟩
theorem lt_close {ar ai br bi t p1 d p2 p3 p4 p5 r1 r2 n : Nat} {w : World} (H1 : Ar .quo br bi t) (H2 : Ar .mul br t p1) (H3 : Ar .add bi p1 d) (H4 : Ar .mul ar t p2) (H5 : Ar .add p2 ai p3) (H6 : Ar .quo p3 d r1) (H7 : Ar .mul ai t p4) (H8 : Ar .sub p4 ar p5) (H9 : Ar .quo p5 d r2) :
    CPost (N2 .quo (N2 .add (N2 .mul ar (N2 .quo br bi)) ai) (N2 .add bi (N2 .mul br (N2 .quo br bi)))) (N2 .quo (N2 .sub (N2 .mul ai (N2 .quo br bi)) ar) (N2 .add bi (N2 .mul br (N2 .quo br bi)))) w (.returned (.complex .f64 r1 r2)) (w.drewN n) := by
  have e2 : cn p1 = N2 .mul br (N2 .quo br bi) := by rw [H2.2, N2_r H1.2]
  have e3 : cn d = N2 .add bi (N2 .mul br (N2 .quo br bi)) := by rw [H3.2, N2_r e2]
  have e4 : cn p2 = N2 .mul ar (N2 .quo br bi) := by rw [H4.2, N2_r H1.2]
  have e5 : cn p3 = N2 .add (N2 .mul ar (N2 .quo br bi)) ai := by rw [H5.2, N2_l e4]
  have e7 : cn p4 = N2 .mul ai (N2 .quo br bi) := by rw [H7.2, N2_r H1.2]
  have e8 : cn p5 = N2 .sub (N2 .mul ai (N2 .quo br bi)) ar := by rw [H8.2, N2_l e7]
  exact ⟨r1, r2, n, rfl, rfl, H6.1, H9.1, by rw [H6.2, N2_l e5, N2_r e3], by rw [H9.2, N2_l e8, N2_r e3]⟩

set_option maxRecDepth 100000 in
theorem div_ge (ar ai br bi : Nat) (hbr : br < 18446744073709551616) (hbi : bi < 18446744073709551616) (w : World) (h : FloatKind.f64.format.order (br % 9223372036854775808) (bi % 9223372036854775808) = some Ordering.gt ∨ FloatKind.f64.format.order (br % 9223372036854775808) (bi % 9223372036854775808) = some Ordering.eq) :
    Calls Try.prog 63 #[.complex .f64 ar ai, .complex .f64 br bi] w (CPost (N2 .quo (N2 .add ar (N2 .mul ai (N2 .quo bi br))) (N2 .add br (N2 .mul bi (N2 .quo bi br)))) (N2 .quo (N2 .sub ai (N2 .mul ar (N2 .quo bi br))) (N2 .add br (N2 .mul bi (N2 .quo bi br)))) w) := by
  rcases h with h | h
  all_goals
    go_enter Try.func63, Try.ntmps63
    go_wp2_with fail
    refine (abs_any br hbr _).mono ?_
    rintro e w' ⟨rfl, rfl⟩
    go_wp2_with fail
    refine (abs_any bi hbi _).mono ?_
    rintro e w' ⟨rfl, rfl⟩
    go_wp2_with (first | (refine wpList_farith _ rfl .quo _ _ _ _ rfl _ _ rfl rfl (by simp) ?_; intro r n hr hc; have HR : Ar _ _ _ _ := And.intro hr hc; clear hr hc) | (refine wpList_farith _ rfl .mul _ _ _ _ rfl _ _ rfl rfl (by simp) ?_; intro r n hr hc; have HR : Ar _ _ _ _ := And.intro hr hc; clear hr hc) | (refine wpList_farith _ rfl .add _ _ _ _ rfl _ _ rfl rfl (by simp) ?_; intro r n hr hc; have HR : Ar _ _ _ _ := And.intro hr hc; clear hr hc) | (refine wpList_farith _ rfl .sub _ _ _ _ rfl _ _ rfl rfl (by simp) ?_; intro r n hr hc; have HR : Ar _ _ _ _ := And.intro hr hc; clear hr hc))
    go_ret
    exact ge_close (by assumption) (by assumption) (by assumption) (by assumption) (by assumption) (by assumption) (by assumption) (by assumption) (by assumption)
set_option maxRecDepth 100000 in
theorem div_lt (ar ai br bi : Nat) (hbr : br < 18446744073709551616) (hbi : bi < 18446744073709551616) (w : World) (h : FloatKind.f64.format.order (br % 9223372036854775808) (bi % 9223372036854775808) = some Ordering.lt) :
    Calls Try.prog 63 #[.complex .f64 ar ai, .complex .f64 br bi] w (CPost (N2 .quo (N2 .add (N2 .mul ar (N2 .quo br bi)) ai) (N2 .add bi (N2 .mul br (N2 .quo br bi)))) (N2 .quo (N2 .sub (N2 .mul ai (N2 .quo br bi)) ar) (N2 .add bi (N2 .mul br (N2 .quo br bi)))) w) := by
  go_enter Try.func63, Try.ntmps63
  go_wp2_with fail
  refine (abs_any br hbr _).mono ?_
  rintro e w' ⟨rfl, rfl⟩
  go_wp2_with fail
  refine (abs_any bi hbi _).mono ?_
  rintro e w' ⟨rfl, rfl⟩
  go_wp2_with (first | (refine wpList_farith _ rfl .quo _ _ _ _ rfl _ _ rfl rfl (by simp) ?_; intro r n hr hc; have HR : Ar _ _ _ _ := And.intro hr hc; clear hr hc) | (refine wpList_farith _ rfl .mul _ _ _ _ rfl _ _ rfl rfl (by simp) ?_; intro r n hr hc; have HR : Ar _ _ _ _ := And.intro hr hc; clear hr hc) | (refine wpList_farith _ rfl .add _ _ _ _ rfl _ _ rfl rfl (by simp) ?_; intro r n hr hc; have HR : Ar _ _ _ _ := And.intro hr hc; clear hr hc) | (refine wpList_farith _ rfl .sub _ _ _ _ rfl _ _ rfl rfl (by simp) ?_; intro r n hr hc; have HR : Ar _ _ _ _ := And.intro hr hc; clear hr hc))
  go_ret
  exact lt_close (by assumption) (by assumption) (by assumption) (by assumption) (by assumption) (by assumption) (by assumption) (by assumption) (by assumption)

set_option maxRecDepth 100000 in
theorem scale_any (x a b : Nat) (w : World) : Calls Try.prog 64 #[.float .f64 x, .complex .f64 a b] w (CPost (N2 .mul x a) (N2 .mul x b) w) := by
  go_enter Try.func64, Try.ntmps64
  go_wp2_with (first | (refine wpList_farith _ rfl .quo _ _ _ _ rfl _ _ rfl rfl (by simp) ?_; intro r n hr hc; have HR : Ar _ _ _ _ := And.intro hr hc; clear hr hc) | (refine wpList_farith _ rfl .mul _ _ _ _ rfl _ _ rfl rfl (by simp) ?_; intro r n hr hc; have HR : Ar _ _ _ _ := And.intro hr hc; clear hr hc) | (refine wpList_farith _ rfl .add _ _ _ _ rfl _ _ rfl rfl (by simp) ?_; intro r n hr hc; have HR : Ar _ _ _ _ := And.intro hr hc; clear hr hc) | (refine wpList_farith _ rfl .sub _ _ _ _ rfl _ _ rfl rfl (by simp) ?_; intro r n hr hc; have HR : Ar _ _ _ _ := And.intro hr hc; clear hr hc))
  go_ret
  exact half_close' (by assumption) (by assumption)
end Go.Proofs.Ytnmpofjegepmaaa
