/- WholeMagnitudes: the walk. -/
import Derived.Test.YtnmpofjegepmaaaS5
import Derived.Test.YtnmpofjegepmaaaE1
import Derived.Test.YtnmpofjegepmaaaJ2
import Derived.Outline
namespace Go.Proofs.Ytnmpofjegepmaaa
open Go.RowKit Go.Proofs.Ytnmpofjegepmaaa.Fl Go.Proofs.Ytnmpofjegepmaaa.Pt Go.Proofs.Ytnmpofjegepmaaa.Mag

theorem fb_sub {x y : Nat} (hx : fin x) (hy : fin y) : floatBits .sub .f64 x y = some (N2 .sub x y) := by
  have h : floatBits .sub .f64 x y = Ieee.double.sub x y := rfl
  have h2 := sub_eq (x := x) hy.1
  have h3 := add_fin hx (fin_ng hy)
  have h4 : floatBits .sub .f64 x y = some _ := h.trans (h2.trans h3)
  rw [h4, N2_of h4]
theorem csub_fin {P : Program} {a b c d : Nat} (t : TypeId) (ha : fin a) (hb : fin b) (hc : fin c) (hd : fin d) (w : World) :
    (binOp .sub t (.complex .f64 a b) (.complex .f64 c d)).run P w = .ok (.complex .f64 (N2 .sub a c) (N2 .sub b d)) w := by
  have h1 : (Op.Complex.arith .sub .f64 a c).run P w = .ok (N2 .sub a c) w := by simp [Op.Complex.arith, run_floatArith w (fb_sub ha hc)]
  have h2 : (Op.Complex.arith .sub .f64 b d).run P w = .ok (N2 .sub b d) w := by simp [Op.Complex.arith, run_floatArith w (fb_sub hb hd)]
  simp [binOp, Op.complexOp, h1, h2]
theorem not_lt {X Y : Nat} (hX : X < INF) (h : Y ≤ X) : (FloatKind.f64.format.order X Y == some Ordering.lt) = false := by
  rcases Nat.lt_or_eq_of_le h with h | h
  · rw [ordw_gt hX h]; rfl
  · subst h; rw [ordw_eq hX]; rfl
theorem not_gt {X Y : Nat} (hY : Y < INF) (h : X ≤ Y) : (FloatKind.f64.format.order X Y == some Ordering.gt) = false := by
  rcases Nat.lt_or_eq_of_le h with h | h
  · rw [ordw_lt hY h]; rfl
  · subst h; rw [ordw_eq hY]; rfl
/-- Is a word nought? -/
theorem ord0 {x X : Nat} (h : fin x) (hX : x % SG = X) : (FloatKind.f64.format.order x 0 == some Ordering.eq) = decide (X = 0) := by
  have ho := ord_ky h fin0
  rw [ky0] at ho
  have hky : ky x = sg (decide (SG ≤ x)) (Fl.V X) := by unfold ky; rw [hX]
  rw [ho]
  by_cases h0 : X = 0
  · have h2 : ky x = 0 := by rw [hky, h0, V_zero]; unfold sg; split <;> simp
    rw [h2, cmp_eq rfl, h0]; rfl
  · have h1 : Fl.V X ≠ 0 := fun h => h0 (V_inj (h.trans V_zero.symm))
    have h2 : decide (X = 0) = false := by simpa using h0
    rw [h2]
    rcases Int.lt_trichotomy (ky x) 0 with h3 | h3 | h3
    · rw [cmp_lt h3]; rfl
    · exfalso
      rw [hky] at h3
      unfold sg at h3
      split at h3 <;> omega
    · rw [cmp_gt h3]; rfl
def C48 : Nat := 4391009636686233600
theorem c48_bin : C48 = 975 * ON := by decide
set_option exponentiation.threshold 4000 in
theorem mv_c48 : mv C48 = 32 * EP := by
  have h : Fl.V C48 * 2 ^ 48 = Fl.V ONEw := by
    rw [c48_bin, one_bin, V_bin (by decide), V_bin (by decide), ← Nat.pow_add]
  have h1 := mv_U C48
  have h2 := mv_U ONEw
  rw [← h, Rat.natCast_mul, ← h1, mv_one] at h2
  have h3 : mv C48 * ((2 ^ 48 : Nat) : Rat) = 1 := by apply cancelU; grind
  have h4 : ((2 ^ 48 : Nat) : Rat) = 281474976710656 := rfl
  rw [h4] at h3
  unfold EP
  grind
/-- The bound that the law compares with. -/
theorem bound_g {A : Nat} (hA : Win A 991 1055) : N2 .mul A C48 < INF ∧ 31 * EP * mv A ≤ mv (N2 .mul A C48) := by
  have hAI : A < INF := Nat.lt_of_le_of_lt hA.hi (by rw [inf_bin]; exact Nat.mul_lt_mul_of_pos_right (by decide) ON0)
  have hc : Win C48 975 975 := ⟨by rw [c48_bin]; exact Nat.le_refl _, by rw [c48_bin]; exact Nat.le_refl _⟩
  obtain ⟨m1, _, m3⟩ := mul_op hA hc (by decide) (by decide) (by decide) (by decide) (by decide) (by decide)
  rw [← mulp hAI (by decide)] at m1 m3
  refine ⟨m1, ?_⟩
  rw [mv_c48] at m3
  have e := Rat.le_of_lt EP_pos
  have h1 := mn e (mv_nn A)
  have h2 := mr EP_small h1
  have h3 := m3.1
  grind
/-- The magnitude of what is left is within it. -/
theorem far_ok {E1 E2 A F : Nat} (hA : Win A 991 1055) (h1 : mv E1 ≤ 153 / 10 * EP * mv A) (h2 : mv E2 ≤ 153 / 10 * EP * mv A) (hF : CA E1 E2 F) : F ≤ N2 .mul A C48 := by
  obtain ⟨g1, g2⟩ := bound_g hA
  have hE : ∀ {E : Nat}, mv E ≤ 153 / 10 * EP * mv A → E ≤ 1900 * ON := by
    intro E h
    have e := mr EP_small (mv_nn A)
    have e0 := mv_nn A
    have h3 : E ≤ A := le_of_mv (by grind)
    exact Nat.le_trans h3 (Nat.le_trans hA.hi (Nat.mul_le_mul_right _ (by decide)))
  rcases hF with ⟨_, _, rfl⟩ | ⟨M, N, q, h3, h4, h5, h6, h7⟩
  · exact Nat.zero_le _
  · have hM : mv M ≤ 153 / 10 * EP * mv A := by rcases h4 with ⟨h, _⟩ | ⟨h, _⟩ <;> rw [h] <;> assumption
    obtain ⟨q', k1, _, _, _, _, _, _, _, _, k10, _, _⟩ := abs_gen (M := M) (N := N) (hE hM) h3 h5 rfl rfl rfl
    rw [h6] at k1
    cases k1
    rw [← h7] at k10
    apply le_of_mv
    have h8 : mv F ≤ 2 * mv M := by
      apply leU
      have : ((Fl.V F : Nat) : Rat) ≤ ((2 * Fl.V M : Nat) : Rat) := by exact_mod_cast k10
      rw [Rat.natCast_mul, ← mv_U, ← mv_U] at this
      have e2 : ((2 : Nat) : Rat) = 2 := rfl
      rw [e2] at this
      grind
    have := mn (Rat.le_of_lt EP_pos) (mv_nn A)
    grind
end Go.Proofs.Ytnmpofjegepmaaa
