/- cplx.Sqrt of tame numbers: the walk. -/
import Derived.Test.YtnmpofjegepmaaaS2
import Derived.Test.YtnmpofjegepmaaaK9
namespace Go.Proofs.Ytnmpofjegepmaaa
open Go.RowKit Go.Proofs.Ytnmpofjegepmaaa.Fl Go.Proofs.Ytnmpofjegepmaaa.Pt Go.Proofs.Ytnmpofjegepmaaa.Mag

def Tm (X : Nat) : Prop := X = 0 ∨ Win X 991 1054
theorem Tm.lt {X : Nat} (h : Tm X) : X ≤ 1900 * ON := by
  rcases h with h | h
  · rw [h]; exact Nat.zero_le _
  · exact Nat.le_trans h.hi (Nat.mul_le_mul_right _ (by decide))
theorem tame_abs {R I A : Nat} (h : CA R I A) (tR : Tm R) (tI : Tm I) (h0 : ¬ (R = 0 ∧ I = 0)) : Win A 991 1055 ∧ R ≤ A ∧ I ≤ A ∧ Fl.V A ≤ 2 * Fl.V (max R I) ∧ Ne (mv A * mv A) (mv R * mv R + mv I * mv I) 10 := by
  rcases h with ⟨h1, h2, _⟩ | ⟨M, N, q, h1, h2, h3, h4, h5⟩
  · exact absurd ⟨h1, h2⟩ h0
  · have tM : Tm M := by rcases h2 with ⟨h, _⟩ | ⟨h, _⟩ <;> rw [h] <;> assumption
    have tN : Tm N := by rcases h2 with ⟨_, h⟩ | ⟨_, h⟩ <;> rw [h] <;> assumption
    have wM : Win M 991 1054 := tM.resolve_left h1
    obtain ⟨q', g1, g2, g3, g4, g5, g6, g7, g8, g9, g10, g11, g12⟩ := abs_gen (M := M) (N := N) tM.lt h1 h3 rfl rfl rfl
    rw [h4] at g1
    cases g1
    obtain ⟨k1, k2⟩ := abs_tame wM tN h3 rfl rfl g6 g7 g11 g12
    rw [← h5] at k1 k2 g8 g10
    refine ⟨k2, by omega, by omega, ?_, ?_⟩
    · rw [show max R I = M by omega]; exact g10
    · rcases h2 with ⟨e1, e2⟩ | ⟨e1, e2⟩
      · rw [← e1, ← e2]; exact k1
      · rw [← e1, ← e2, Rat.add_comm]; exact k1

/-- What is left behind a root's square. -/
def FarP (re im A s1 s2 : Nat) : Prop :=
  (fin (N2 .sub (N2 .mul s1 s1) (N2 .mul s2 s2)) ∧ fin (N2 .sub (N2 .sub (N2 .mul s1 s1) (N2 .mul s2 s2)) re) ∧ mv (N2 .sub (N2 .sub (N2 .mul s1 s1) (N2 .mul s2 s2)) re % SG) ≤ 153 / 10 * EP * mv A) ∧
  (fin (N2 .add (N2 .mul s1 s2) (N2 .mul s2 s1)) ∧ fin (N2 .sub (N2 .add (N2 .mul s1 s2) (N2 .mul s2 s1)) im) ∧ mv (N2 .sub (N2 .add (N2 .mul s1 s2) (N2 .mul s2 s1)) im % SG) ≤ 153 / 10 * EP * mv A)

/-- How a word stands to nought. -/
theorem sign_ways {re R : Nat} (fre : fin re) (hR : re % SG = R) : (FloatKind.f64.format.order re 0 = some Ordering.eq ∧ rv re = mv R) ∨ (FloatKind.f64.format.order re 0 = some Ordering.gt ∧ rv re = mv R) ∨ (FloatKind.f64.format.order re 0 = some Ordering.lt ∧ rv re = -mv R) := by
  have hk := rv_sgn fre
  rw [hR] at hk
  have ho := ord_ky fre fin0
  rw [ky0] at ho
  have hky : ky re = sg (decide (SG ≤ re)) (Fl.V R) := by unfold ky; rw [hR]
  rcases Nat.eq_zero_or_pos (Fl.V R) with h0 | h0
  · left
    have h1 : R = 0 := V_inj (h0.trans V_zero.symm)
    have h2 : ky re = 0 := by rw [hky, h0]; unfold sg; split <;> simp
    refine ⟨by rw [ho, h2, cmp_eq rfl], ?_⟩
    rw [hk, h1, mv0]
    split <;> first | exact Rat.neg_zero | rfl
  · cases hs : decide (SG ≤ re)
    · right; left
      rw [hs] at hk hky
      have h2 : ky re = (Fl.V R : Int) := hky
      exact ⟨by rw [ho, h2, cmp_gt (by omega)], by simpa using hk⟩
    · right; right
      rw [hs] at hk hky
      have h2 : ky re = -(Fl.V R : Int) := hky
      exact ⟨by rw [ho, h2, cmp_lt (by omega)], by simpa using hk⟩
theorem finB_fin {u v : Nat} (hu : fin u) (hv : fin v) : finB u v = true := by rw [finB_eq]; simp [hu.2, hv.2]

set_option maxRecDepth 100000 in
theorem csqrt_tame {re im R I : Nat} (fre : fin re) (fim : fin im) (hR : re % SG = R) (hI : im % SG = I) (tR : Tm R) (tI : Tm I) (h0 : ¬ (R = 0 ∧ I = 0)) (w : World) :
    Calls Try.prog 65 #[.complex .f64 re im] w fun e w' => ∃ s1 s2 A, e = .returned (.complex .f64 s1 s2) ∧ w' = w ∧ CA R I A ∧ s1 < INF ∧ s2 < 18446744073709551616 ∧ FarP re im A s1 s2 := by
  have lu := fre.1
  have lv := fim.1
  have hRI : R < INF := by rw [← hR]; exact fre.2
  have hII : I < INF := by rw [← hI]; exact fim.2
  have hf := finB_fin fre fim
  have a1 := abs_any re lu
  have a2 := abs_any im lv
  rw [show re % 9223372036854775808 = R from hR] at a1
  rw [show im % 9223372036854775808 = I from hI] at a2
  obtain ⟨M, mx, hM0, hM⟩ : ∃ M, (∀ w, (Builtin.max_ #[31, 31] 31 #[.float .f64 R, .float .f64 I]).run Try.prog w = .ok (.float .f64 M) w) ∧ M ≠ 0 ∧ (M = R ∨ M = I) := by
    rcases Nat.lt_trichotomy R I with h | h | h
    · exact ⟨I, run_max_lt (ordw_lt hII h), by omega, .inr rfl⟩
    · subst h
      exact ⟨R, run_max_eq (ordw_eq hRI), by omega, .inl rfl⟩
    · exact ⟨R, run_max_gt (ordw_gt hRI h), by omega, .inl rfl⟩
  have wM : Win M 991 1054 := by
    rcases hM with h | h
    · subst h; exact tR.resolve_left hM0
    · subst h; exact tI.resolve_left hM0
  have hON : ON = 4503599627370496 := rfl
  have wlo := wM.lo
  have whi := wM.hi
  rw [hON] at wlo whi
  have hMI : M < INF := by rcases hM with h | h <;> rw [h] <;> assumption
  have o1 := ordw_gt hMI (Nat.pos_of_ne_zero hM0)
  have o2 : FloatKind.f64.format.order M 9110782046170513408 = some Ordering.lt := ordw_lt (by decide) (by omega)
  have o3 : FloatKind.f64.format.order M 553942754166571008 = some Ordering.gt := ordw_gt hMI (by omega)
  have W0 := Lib.hid (sign_ways fre hR)
  have HF := Lib.hid hf
  have A1 := Lib.hid a1
  have A2 := Lib.hid a2
  have FR := Lib.hid fre
  have FI := Lib.hid fim
  have HR := Lib.hid hR
  have HI := Lib.hid hI
  clear hf a1 a2 hM hM0 wM wlo whi hMI hON fre fim hR hI
  go_enter Try.func65, Try.ntmps65
  go_wp2_with fail
  refine (finite_any re im lu lv _).mono ?_
  rintro e w' ⟨rfl, rfl⟩
  rw [HF.out]
  go_wp2_with fail
  refine (A1.out _).mono ?_
  rintro e w' ⟨rfl, rfl⟩
  go_wp2_with fail
  refine (A2.out _).mono ?_
  rintro e w' ⟨rfl, rfl⟩
  go_wp2_with fail
  refine (A1.out _).mono ?_
  rintro e w' ⟨rfl, rfl⟩
  go_wp2_with fail
  refine (cabs_any FR.out FI.out HR.out HI.out tR.lt tI.lt _).mono ?_
  rintro e w' ⟨A, rfl, hCA, rfl⟩
  obtain ⟨wA, hRA, hIA, _, hN⟩ := tame_abs hCA tR tI h0
  obtain ⟨u, v, X, r1, r2, r3, r4, r5, r6, r7, r8, r9, ⟨r10, r11, r12⟩, ⟨r13, r14⟩, r15⟩ := root_words FI.out HI.out tI wA hRA hN
  have HFW : Hid (∀ s1 s2, ((rv re = mv R ∧ s1 = u ∧ s2 = wd (decide (SG ≤ im)) X) ∨ (rv re = -mv R ∧ s1 = X ∧ s2 = wd (decide (SG ≤ im)) u)) → FarP re im A s1 s2) := Lib.hid fun s1 s2 hs => far_words FR.out FI.out HR.out HI.out wA hRA hIA r3 r6 r7 r8 r9 r13 r14 r15 hs
  have e1 := fun w => run_num (P := Try.prog) (op := .add) rfl (nanw r10) 31 w (by simp)
  have e2 := fun w => run_num (P := Try.prog) (op := .mul) rfl (nanw r11) 31 w (by simp)
  have e3 := fun w => run_num (P := Try.prog) (op := .mul) rfl (nanw r12) 31 w (by simp)
  have e4 := fun w => run_num (P := Try.prog) (op := .quo) r2 (by rw [r5]; exact fin_nan (fin_wd _ r6)) 31 w (by simp)
  have lV : v < 18446744073709551616 := by rw [r5]; exact (fin_wd _ r6).1
  have hv3 : v % SG = X := by rw [r5, wd_rung _ (Nat.lt_trans r6 INF_SG)]
  have a3 := abs_any v lV
  rw [show v % 9223372036854775808 = X from hv3] at a3
  have A3 := Lib.hid a3
  have R1 := Lib.hid r1
  have R3 := Lib.hid r3
  have R5 := Lib.hid r5
  have R6 := Lib.hid r6
  have HCA := Lib.hid hCA
  have hcs : u + sgw im = wd (decide (SG ≤ im)) u := by
    unfold sgw wd
    by_cases h : SG ≤ im
    · simp [h]; omega
    · simp [h]
  have HCS := Lib.hid hcs
  have hu63 : u < 9223372036854775808 := Nat.lt_trans r3 INF_SG
  clear r1 r2 r3 r4 r5 r6 r7 r8 r9 r10 r11 r12 r13 r14 r15 hCA wA hRA hIA hN a3 hv3 hcs
  rw [show HALFw = 4602678819172646912 from rfl] at e2 R1
  rw [show TWOw = 4611686018427387904 from rfl] at e3 e4
  generalize N2 .add R A = w1 at *
  generalize N2 .mul w1 4602678819172646912 = w2 at *
  generalize N2 .mul 4611686018427387904 u = d at *
  go_wp2_with fail
  refine (msqrt_run R1.out _).mono ?_
  rintro e w3 ⟨rfl, rfl⟩
  rcases W0.out with ⟨o4, hrv⟩ | ⟨o4, hrv⟩ | ⟨o4, hrv⟩
  · go_wp2_with fail
    go_ret
    exact ⟨u, v, A, rfl, rfl, HCA.out, R3.out, lV, HFW.out u v (.inl ⟨hrv, rfl, R5.out⟩)⟩
  · go_wp2_with fail
    go_ret
    exact ⟨u, v, A, rfl, rfl, HCA.out, R3.out, lV, HFW.out u v (.inl ⟨hrv, rfl, R5.out⟩)⟩
  · go_wp2_with fail
    refine (A3.out _).mono ?_
    rintro e w4 ⟨rfl, rfl⟩
    go_wp2_with fail
    refine (copysign_any u im hu63 lv _).mono ?_
    rintro e w5 ⟨rfl, rfl⟩
    rw [HCS.out]
    go_wp2_with fail
    go_ret
    exact ⟨X, _, A, rfl, rfl, HCA.out, R6.out, (fin_wd _ R3.out).1, HFW.out X _ (.inr ⟨hrv, rfl, rfl⟩)⟩
end Go.Proofs.Ytnmpofjegepmaaa
