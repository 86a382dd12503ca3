/- cplx.Abs of finite numbers: the walk. -/
import Derived.Test.YtnmpofjegepmaaaS1
import Derived.Test.YtnmpofjegepmaaaK7
namespace Go.Proofs.Ytnmpofjegepmaaa
open Go.RowKit Go.Proofs.Ytnmpofjegepmaaa.Fl Go.Proofs.Ytnmpofjegepmaaa.Pt Go.Proofs.Ytnmpofjegepmaaa.Mag

theorem fb_of {op : BinOp} {x y : Nat} (h : nan (N2 op x y) = false) : floatBits op .f64 x y = some (N2 op x y) := by
  cases hf : floatBits op .f64 x y with
  | none => unfold N2 at h; rw [hf] at h; exact absurd h (by decide)
  | some r => rw [N2_of hf]
theorem run_num {P : Program} {op : BinOp} {x y r : Nat} (hr : r = N2 op x y) (h : nan r = false) (t : TypeId) (w : World) (hop : op = .add ∨ op = .sub ∨ op = .mul ∨ op = .quo) : (binOp op t (.float .f64 x) (.float .f64 y)).run P w = .ok (.float .f64 r) w := by
  subst hr
  rcases hop with rfl | rfl | rfl | rfl <;> exact run_float_arith w _ t .f64 x y _ (fb_of h)
theorem nanw {X : Nat} (h : X < INF) : nan X = false := fin_nan (finw h)
theorem nan_le {X Y : Nat} (h : X ≤ Y) (hY : Y < INF) : nan X = false := nanw (Nat.lt_of_le_of_lt h hY)
theorem ordw {X Y : Nat} (hX : X < INF) (hY : Y < INF) : FloatKind.f64.format.order X Y = some (compare (X : Int) (Y : Int)) := by
  show Ieee.double.order X Y = _
  have h1 := Nat.lt_trans hX INF_SG
  have h2 := Nat.lt_trans hY INF_SG
  have r1 : rk X = X := by unfold rk; rw [if_neg (by omega)]
  have r2 : rk Y = Y := by unfold rk; rw [if_neg (by omega)]
  rw [order_eq (Nat.lt_trans h1 SG_lt) (Nat.lt_trans h2 SG_lt), nanw hX, nanw hY, r1, r2]; rfl
theorem ordw_gt {X Y : Nat} (hX : X < INF) (h : Y < X) : FloatKind.f64.format.order X Y = some Ordering.gt := by rw [ordw hX (by omega), cmp_gt (by omega)]
theorem ordw_lt {X Y : Nat} (hY : Y < INF) (h : X < Y) : FloatKind.f64.format.order X Y = some Ordering.lt := by rw [ordw (by omega) hY, cmp_lt (by omega)]
theorem ordw_eq {X : Nat} (hX : X < INF) : FloatKind.f64.format.order X X = some Ordering.eq := by rw [ordw hX hX, cmp_eq rfl]
theorem run_max_eq {x : Nat} (h : FloatKind.f64.format.order x x = some Ordering.eq) (w : World) : (Builtin.max_ #[31, 31] 31 #[.float .f64 x, .float .f64 x]).run Try.prog w = .ok (.float .f64 x) w := by
  simp [Builtin.max_, Builtin.max2, h]
theorem run_min_eq {x : Nat} (h : FloatKind.f64.format.order x x = some Ordering.eq) (w : World) : (Builtin.min_ #[31, 31] 31 #[.float .f64 x, .float .f64 x]).run Try.prog w = .ok (.float .f64 x) w := by
  simp [Builtin.min_, Builtin.min2, h]
theorem msqrt_run {x r : Nat} (h : Ieee.double.sqrt x = some r) (w : World) : Calls Try.prog 94 #[.float .f64 x] w fun e w' => e = .returned (.float .f64 r) ∧ w' = w := by
  have hrun := sqrt_run h
  go_enter Try.func94, Try.ntmps94
  go_wp2
  go_ret
  exact ⟨rfl, rfl⟩

/-- The magnitude of parts X, Y. -/
def CA (X Y r : Nat) : Prop := (X = 0 ∧ Y = 0 ∧ r = 0) ∨ (∃ M N q, M ≠ 0 ∧ ((M = X ∧ N = Y) ∨ (M = Y ∧ N = X)) ∧ N ≤ M ∧ Ieee.double.sqrt (N2 .add ONEw (N2 .mul (N2 .quo N M) (N2 .quo N M))) = some q ∧ r = N2 .mul M q)
theorem CA_one {X Y r r' : Nat} (h : CA X Y r) (h' : CA X Y r') : r = r' := by
  rcases h with ⟨rfl, rfl, rfl⟩ | ⟨M, N, q, h1, h2, h3, h4, h5⟩
  · rcases h' with ⟨_, _, rfl⟩ | ⟨M, N, q, h1, h2, h3, h4, h5⟩
    · rfl
    · omega
  · rcases h' with ⟨_, _, rfl⟩ | ⟨M', N', q', h1', h2', h3', h4', h5'⟩
    · omega
    · obtain ⟨e1, e2⟩ : M' = M ∧ N' = N := by omega
      subst e1 e2
      rw [h4] at h4'
      cases h4'
      rw [h5, h5']

set_option maxRecDepth 100000 in
theorem cabs_any {u v X Y : Nat} (fu : fin u) (fv : fin v) (hX : u % SG = X) (hY : v % SG = Y) (bX : X ≤ 1900 * ON) (bY : Y ≤ 1900 * ON) (w : World) :
    Calls Try.prog 55 #[.complex .f64 u v] w fun e w' => ∃ r, e = .returned (.float .f64 r) ∧ CA X Y r ∧ w' = w := by
  have lu := fu.1
  have lv := fv.1
  have hXI : X < INF := by rw [← hX]; exact fu.2
  have hYI : Y < INF := by rw [← hY]; exact fv.2
  have ix : decide (X = INF) = false := by simp; omega
  have iy : decide (Y = INF) = false := by simp; omega
  have nx : nan X = false := nanw hXI
  have ny : nan Y = false := nanw hYI
  have lx : X < 18446744073709551616 := (finw hXI).1
  have ly : Y < 18446744073709551616 := (finw hYI).1
  have a1 := abs_any u lu
  have a2 := abs_any v lv
  rw [show u % 9223372036854775808 = X from hX] at a1
  rw [show v % 9223372036854775808 = Y from hY] at a2
  have IX := Lib.hid ix
  have IY := Lib.hid iy
  have NX := Lib.hid nx
  have NY := Lib.hid ny
  have A1 := Lib.hid a1
  have A2 := Lib.hid a2
  -- which is the greater
  have hMN : X = 0 ∧ Y = 0 ∨ ∃ M N, (∀ w, (Builtin.max_ #[31, 31] 31 #[.float .f64 X, .float .f64 Y]).run Try.prog w = .ok (.float .f64 M) w) ∧ (∀ w, (Builtin.min_ #[31, 31] 31 #[.float .f64 X, .float .f64 Y]).run Try.prog w = .ok (.float .f64 N) w) ∧ M ≠ 0 ∧ ((M = X ∧ N = Y) ∨ (M = Y ∧ N = X)) ∧ N ≤ M := by
    rcases Nat.lt_trichotomy X Y with h | h | h
    · have o := ordw_lt hYI h
      exact .inr ⟨Y, X, run_max_lt o, run_min_lt o, by omega, .inr ⟨rfl, rfl⟩, by omega⟩
    · by_cases h0 : X = 0
      · exact .inl ⟨h0, by omega⟩
      · subst h
        have o := ordw_eq hXI
        exact .inr ⟨X, X, run_max_eq o, run_min_eq o, h0, .inl ⟨rfl, rfl⟩, Nat.le_refl _⟩
    · have o := ordw_gt hXI h
      exact .inr ⟨X, Y, run_max_gt o, run_min_gt o, by omega, .inl ⟨rfl, rfl⟩, by omega⟩
  have HMN := Lib.hid hMN
  clear ix iy nx ny a1 a2 hMN hX hY fu fv
  go_enter Try.func55, Try.ntmps55
  go_wp2_with fail
  refine (A1.out _).mono ?_
  rintro e w' ⟨rfl, rfl⟩
  go_wp2_with fail
  refine (A2.out _).mono ?_
  rintro e w' ⟨rfl, rfl⟩
  go_wp2_with fail
  refine (isinf1_any X lx _).mono ?_
  rintro e w' ⟨rfl, rfl⟩
  rw [IX.out]
  go_wp2_with fail
  refine (isinf1_any Y ly _).mono ?_
  rintro e w' ⟨rfl, rfl⟩
  rw [IY.out]
  go_wp2_with fail
  refine (isnan_any X lx _).mono ?_
  rintro e w' ⟨rfl, rfl⟩
  rw [NX.out]
  go_wp2_with fail
  refine (isnan_any Y ly _).mono ?_
  rintro e w' ⟨rfl, rfl⟩
  rw [NY.out]
  rcases HMN.out with ⟨hx0, hy0⟩ | ⟨M, N, m1, m2, hM0, hor, hNM⟩
  · subst hx0 hy0
    have m1 := run_max_00 w'
    have m2 := run_min_00 w'
    have o0 : FloatKind.f64.format.order 0 0 = some Ordering.eq := by decide +kernel
    go_wp2_with fail
    go_ret
    exact ⟨0, rfl, .inl ⟨rfl, rfl, rfl⟩, rfl⟩
  · have hMb : M ≤ 1900 * ON := by rcases hor with ⟨h, _⟩ | ⟨h, _⟩ <;> rw [h] <;> assumption
    have hMI : M < INF := by rcases hor with ⟨h, _⟩ | ⟨h, _⟩ <;> rw [h] <;> assumption
    obtain ⟨q, g1, g2, g3, g4, g5, g6, g7, g8, g9, g10, _, _⟩ := abs_gen hMb hM0 hNM rfl rfl rfl
    have hone : ONEw < INF := by decide
    have htwo : TWOw < INF := by decide
    have HC : Hid (CA X Y (N2 .mul M q)) := Lib.hid (.inr ⟨M, N, q, hM0, hor, hNM, g1, rfl⟩)
    have om := ordw_gt hMI (Nat.pos_of_ne_zero hM0)
    have r1 := fun w => run_num (P := Try.prog) (op := .quo) rfl (nan_le g2 hone) 31 w (by simp)
    have r2 := fun w => run_num (P := Try.prog) (op := .mul) rfl (nan_le g3 hone) 31 w (by simp)
    have r3 := fun w => run_num (P := Try.prog) (op := .add) rfl (nan_le g5 htwo) 31 w (by simp)
    have r4 := fun w => run_num (P := Try.prog) (op := .mul) rfl (nanw g9) 31 w (by simp)
    have G1 := Lib.hid g1
    clear g1 g2 g3 g4 g5 g6 g7 g8 g9 g10 hone htwo hor hMb bX bY hXI hYI lx ly lu lv
    rw [show ONEw = 4607182418800017408 from rfl] at r3 G1
    generalize N2 .quo N M = t at *
    generalize N2 .mul t t = p at *
    generalize N2 .add 4607182418800017408 p = s at *
    generalize N2 .mul M q = r at *
    go_wp2_with fail
    refine (msqrt_run G1.out _).mono ?_
    rintro e w2 ⟨rfl, rfl⟩
    go_wp2_with fail
    go_ret
    exact ⟨r, rfl, HC.out, rfl⟩
end Go.Proofs.Ytnmpofjegepmaaa
