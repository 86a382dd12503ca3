/- quaverlaw01.PartNearest: a whole number of at most 62 bits times a power of two is joined to a number from which it is no farther than from that one's neighbours: for every input the law returns true. Without conditions. -/
import Derived.Test.YtdincnjmohlgiaaW4
import Derived.Test.YtdincnjmohlgiaaPn
import Derived.ProofKit
namespace Go.Proofs.Ytdincnjmohlgiaa
open Go.RowKit Go.Proofs.Ytdincnjmohlgiaa.Fl Go.Proofs.Ytdincnjmohlgiaa.Pt
open Go.ChangeShapes Go.WideShapes Go.ChangeAt

set_option maxRecDepth 100000 in
/-- The number is nought. -/
theorem nearest_0 (b : Bool) (m : Nat) (e E p : Int) (M N x : Nat) (w : World)
    (a1 : (m : Int) / 4 = M) (a2 : e.tmod 900 = E) (_a3 : -900 < E) (_a4 : E < 900) (k21 : Hid (∀ w, Calls Try.prog 21 #[.bool b, .int .u64 M, .int .i64 E] w fun e' w' => e' = .returned (.float .f64 x) ∧ w = w'))
    (k15 : Hid (∀ w, Calls Try.prog 15 #[.float .f64 x] w fun e' w' => e' = .returned (.tuple #[.bool b, .int .u64 N, .int .i64 p, .int .i64 0]) ∧ w = w'))
    (k23 : Hid (∀ w, Calls Try.prog 23 #[.float .f64 x] w fun e' w' => e' = .returned (.bool b) ∧ w = w'))
    (g1 : ((M : Int) == 0) = true) (g2 : (FloatKind.f64.format.order x 0 == some .eq) = true) :
    Calls Try.prog 6 #[.bool b, .int .u64 m, .int .i64 e] w fun e w' => e = .returned (.bool true) ∧ w = w' := by
  go_enter Try.func6, Try.ntmps6
  go_wp2_with (first | (go_at_call 17; refine (awake_any _).mono ?_; rintro e w' ⟨rfl, rfl⟩) | (go_at_call 21; refine (k21.out _).mono ?_; rintro e w' ⟨rfl, rfl⟩) | (go_at_call 15; refine (k15.out _).mono ?_; rintro e w' ⟨rfl, rfl⟩) | (go_at_call 23; refine (k23.out _).mono ?_; rintro e w' ⟨rfl, rfl⟩))
  go_ret
  exact ⟨rfl, rfl⟩

set_option maxRecDepth 100000 in
/-- It is there. -/
theorem nearest_a (b : Bool) (m : Nat) (e E p : Int) (M N x : Nat) (w : World)
    (a1 : (m : Int) / 4 = M) (a2 : e.tmod 900 = E) (_a3 : -900 < E) (_a4 : E < 900) (k21 : Hid (∀ w, Calls Try.prog 21 #[.bool b, .int .u64 M, .int .i64 E] w fun e' w' => e' = .returned (.float .f64 x) ∧ w = w'))
    (k15 : Hid (∀ w, Calls Try.prog 15 #[.float .f64 x] w fun e' w' => e' = .returned (.tuple #[.bool b, .int .u64 N, .int .i64 p, .int .i64 0]) ∧ w = w'))
    (k23 : Hid (∀ w, Calls Try.prog 23 #[.float .f64 x] w fun e' w' => e' = .returned (.bool b) ∧ w = w'))
    (g1 : ((M : Int) == 0) = false) (g2 : (FloatKind.f64.format.order x 0 == some .eq) = false)
    (_g3 : decide (p ≤ E) = true) (g4 : p ≤ E) (g5 : E - p < 64) (_g6 : decide (E - p < 64) = true)
    (g7 : (N : Int) / 2 ^ (E - p).toNat = (M : Int)) (g8 : IntKind.u64.wrap ((M : Int) * 2 ^ (E - p).toNat) = (N : Int)) :
    Calls Try.prog 6 #[.bool b, .int .u64 m, .int .i64 e] w fun e w' => e = .returned (.bool true) ∧ w = w' := by
  go_enter Try.func6, Try.ntmps6
  go_wp2_with (first | (go_at_call 17; refine (awake_any _).mono ?_; rintro e w' ⟨rfl, rfl⟩) | (go_at_call 21; refine (k21.out _).mono ?_; rintro e w' ⟨rfl, rfl⟩) | (go_at_call 15; refine (k15.out _).mono ?_; rintro e w' ⟨rfl, rfl⟩) | (go_at_call 23; refine (k23.out _).mono ?_; rintro e w' ⟨rfl, rfl⟩))
  go_ret
  exact ⟨rfl, rfl⟩

set_option maxRecDepth 100000 in
set_option maxHeartbeats 1000000 in
/-- It was rounded. -/
theorem nearest_b (b : Bool) (m : Nat) (e E p : Int) (M N h W D x : Nat) (w : World)
    (a1 : (m : Int) / 4 = M) (a2 : e.tmod 900 = E) (_a3 : -900 < E) (_a4 : E < 900) (k21 : Hid (∀ w, Calls Try.prog 21 #[.bool b, .int .u64 M, .int .i64 E] w fun e' w' => e' = .returned (.float .f64 x) ∧ w = w'))
    (k15 : Hid (∀ w, Calls Try.prog 15 #[.float .f64 x] w fun e' w' => e' = .returned (.tuple #[.bool b, .int .u64 N, .int .i64 p, .int .i64 0]) ∧ w = w'))
    (k23 : Hid (∀ w, Calls Try.prog 23 #[.float .f64 x] w fun e' w' => e' = .returned (.bool b) ∧ w = w'))
    (g1 : ((M : Int) == 0) = false) (g2 : (FloatKind.f64.format.order x 0 == some .eq) = false)
    (g3 : decide (p ≤ E) = false) (g4 : E < p) (g5 : p - E ≤ 10) (g6 : decide (62 < p - E) = false)
    (g7 : IntKind.u64.wrap (2 ^ ((p - E).toNat - 1)) = (h : Int)) (g8 : IntKind.u64.wrap ((N : Int) * 2 ^ (p - E).toNat) = (W : Int)) (g9 : IntKind.u64.wrap (max (W : Int) (M : Int) - min (W : Int) (M : Int)) = (D : Int))
    (H : Hid (NearEnds M N W h D)) (hh : h < 9223372036854775808) :
    Calls Try.prog 6 #[.bool b, .int .u64 m, .int .i64 e] w fun e w' => e = .returned (.bool true) ∧ w = w' := by
  rcases H.out with ⟨t1, t2⟩ | ⟨t1, t2, t3, t4⟩ | ⟨t1, t2, t3⟩ | ⟨t1, t2, t3, t4, t5⟩ | ⟨k, t1, t2, t3, t4⟩ | ⟨k, t1, t2, t3, t4, t5, t6⟩
  all_goals
    go_enter Try.func6, Try.ntmps6
    go_wp2_with (first | (go_at_call 17; refine (awake_any _).mono ?_; rintro e w' ⟨rfl, rfl⟩) | (go_at_call 21; refine (k21.out _).mono ?_; rintro e w' ⟨rfl, rfl⟩) | (go_at_call 15; refine (k15.out _).mono ?_; rintro e w' ⟨rfl, rfl⟩) | (go_at_call 23; refine (k23.out _).mono ?_; rintro e w' ⟨rfl, rfl⟩))
    go_ret
    exact ⟨rfl, rfl⟩

theorem zero_eq (n : Bool) {r : Nat} (hr : r < INF) : (FloatKind.f64.format.order (wd n r) 0 == some .eq) = decide (r = 0) := by
  have hs : r < SG := Nat.lt_trans hr (by decide)
  have e : FloatKind.f64.format.order (wd n r) 0 = Ieee.double.order (wd n r) 0 := rfl
  have n1 : nan (wd n r) = false := by unfold nan; rw [wd_rung n hs]; simp; omega
  have n2 : nan 0 = false := by decide
  rw [e, order_eq (wd_lt n hs) (by decide), n1, n2]
  simp only [Bool.or_self, Bool.false_eq_true, if_false]
  have e2 : rk 0 = 0 := by decide
  rw [rk_eq (wd_lt n hs), wd_rung n hs, wd_neg n hs, e2, cmp_int, Bool.eq_iff_iff]
  simp only [beq_iff_eq, Option.some.injEq, decide_eq_true_eq]
  unfold sg
  cases n
  · simp only [Bool.false_eq_true, if_false]
    by_cases c : r = 0
    · rw [if_neg (by omega), if_pos (by omega)]; simp [c]
    · rw [if_neg (by omega), if_neg (by omega)]; simp [c]
  · simp only [if_true]
    by_cases c : r = 0
    · rw [if_neg (by omega), if_pos (by omega)]; simp [c]
    · rw [if_pos (by omega)]; simp [c]

theorem nearest_walk (b : Bool) (m e : Int) (m0 : 0 ≤ m) (m1 : m < 18446744073709551616) (_e0 : -9223372036854775808 ≤ e) (_e1 : e ≤ 9223372036854775807) (w : World) :
    Calls Try.prog 6 #[.bool b, .int .u64 m, .int .i64 e] w fun e w' => e = .returned (.bool true) ∧ w = w' := by
  obtain ⟨m, rfl⟩ := Int.eq_ofNat_of_zero_le m0
  have a1 : ((m : Nat) : Int) / 4 = ((m / 4 : Nat) : Int) := by omega
  have hM : m / 4 < 4611686018427387904 := by omega
  obtain ⟨E, a2⟩ : ∃ E, e.tmod 900 = E := ⟨_, rfl⟩
  have a34 : -900 < E ∧ E < 900 := by
    rw [← a2]
    have h1 := Int.tmod_lt_of_pos e (show (0 : Int) < 900 by decide)
    have h2 := Int.lt_tmod_of_pos e (show (0 : Int) < 900 by decide)
    omega
  generalize m / 4 = M at *
  have k21 := Lib.hid (fun w => join_any b M E (by omega) (by omega) w)
  simp only [Int.toNat_natCast] at k21
  have main : ∀ r, joinN M E = r → r < INF → Hid (∀ w, Calls Try.prog 21 #[.bool b, .int .u64 M, .int .i64 E] w fun e' w' => e' = .returned (.float .f64 (wd b r)) ∧ w = w') ∧
      Hid (∀ w, Calls Try.prog 15 #[.float .f64 (wd b r)] w fun e' w' => e' = .returned (.tuple #[.bool b, .int .u64 (mg r), .int .i64 ((sh r : Int) - 1074), .int .i64 0]) ∧ w = w') ∧
      Hid (∀ w, Calls Try.prog 23 #[.float .f64 (wd b r)] w fun e' w' => e' = .returned (.bool b) ∧ w = w') := by
    intro r hr hlt
    have hs : r < SG := Nat.lt_trans hlt (by decide)
    rw [hr] at k21
    refine ⟨k21, fun w => ?_, fun w => ?_⟩
    · have := split_any (wd b r) (wd_lt b hs) w
      obtain ⟨s1, s2, s3⟩ := spm_wd b hlt
      have e1 : splitV (wd b r) = .tuple #[.bool b, .int .u64 (mg r), .int .i64 ((sh r : Int) - 1074), .int .i64 0] := by
        unfold splitV; rw [if_neg (by omega), s1, s2, sgb_wd b hs]
      rw [e1] at this
      exact this
    · have := signbit_any (wd b r) (wd_lt b hs) w
      rw [sgb_wd b hs] at this
      exact this
  by_cases h0 : M = 0
  · have hr : joinN M E = 0 := by rw [joinN_RN (by omega), h0, RN_zero]
    obtain ⟨k1, k2, k3⟩ := main 0 hr (by decide)
    refine nearest_0 b m e E _ M _ _ w a1 a2 a34.1 a34.2 k1 k2 k3 (bt (by omega)) ?_
    rw [zero_eq b (by decide)]; rfl
  · obtain ⟨n, p, r, hr, hlt, hpos, hn, hp, hn53, hcs⟩ := nearest_facts hM h0 a34.1 a34.2
    obtain ⟨k1, k2, k3⟩ := main r hr hlt
    rw [← hn, ← hp] at k2
    have z : (FloatKind.f64.format.order (wd b r) 0 == some .eq) = false := by rw [zero_eq b hlt]; simp; omega
    rcases hcs with ⟨c1, c2, c3⟩ | ⟨c1, c2, h, hh, c3, c4⟩
    · have pp := Nat.two_pow_pos (E - p).toNat
      have ce : ((2 : Int) ^ (E - p).toNat) = ((2 ^ (E - p).toNat : Nat) : Int) := by simp
      refine nearest_a b m e E p M n _ w a1 a2 a34.1 a34.2 k1 k2 k3 (bf (by omega)) z (dt c1) c1 c2 (dt c2) ?_ ?_
      · rw [ce, c3]
        have := Nat.mul_div_cancel M pp
        omega
      · rw [cast_mul_pow, ← c3, u64w]; omega
    · have ce : ((2 : Int) ^ ((p - E).toNat - 1)) = ((2 ^ ((p - E).toNat - 1) : Nat) : Int) := by simp
      have hb : h ≤ 2 ^ 9 := by rw [hh]; exact Nat.pow_le_pow_right (by decide) (by omega)
      have h9 : (2 : Nat) ^ 9 = 512 := by decide
      rw [h9] at hb
      refine nearest_b b m e E p M n h (n * 2 ^ (p - E).toNat) (max (n * 2 ^ (p - E).toNat) M - min (n * 2 ^ (p - E).toNat) M) _ w a1 a2 a34.1 a34.2 k1 k2 k3 (bf (by omega)) z (df (by omega)) c1 c2 (df (by omega)) ?_ ?_ ?_ (Lib.hid (ends_of rfl c4)) (by omega)
      · rw [ce, ← hh, u64w]; omega
      · rw [cast_mul_pow, u64w]; omega
      · generalize n * 2 ^ (p - E).toNat = W at *
        rw [u64w]; omega

theorem Try.own : ownKnob Try.prog.godebug = none := by kernel_rfl

set_option maxRecDepth 100000 in
theorem partNearest_lifted (os : Os) (started : os.Started) (H : Type) (enc : TypeId × Value → H) :
    ReturnsInHanded {} Try.checked os 6 .any (Rows.partNearestSpec.pre6 enc Try.prog Try.f6 Rows.partNearestRow.domain false) (Rows.partNearestSpec.post enc Try.prog Try.f6 false true false false) := by
  refine returnsInHanded_of_change (C := Try.checked) Try.own started (by kernel_rfl) Try.func6
    (ChangeSpec.witness6 (enc := enc) (C := Try.checked) false ⟨#[], #[.bool false, .int .u64 0, .int .i64 0], []⟩ 8 (by kernel_rfl) (by kernel_rfl) (by kernel_rfl) (by kernel_rfl)) ?_
  intro W base args ds gs before hval0 hW hcnd _
  have hval : ∀ (j : Nat) t v, Try.f6.params[j]? = some t → args[j]? = some v → Value.okWide Try.prog W .any base t v := hval0
  have hW' := hW
  obtain ⟨p, q, hA0, hV, rfl, hfz, hnd⟩ := hW
  have hA : DataW.TrodAll enc Try.prog W 0 (fun _ => true) true Try.f6.params.toList args.toList ds p := hA0
  rw [Try.params6] at hA hval
  obtain ⟨v0, v1, v2, d0, d1, d2, p0, p1, p2, rfl, rfl, rfl, h0, h1, h2⟩ := trodAll_three hA
  obtain ⟨rfl, rfl⟩ := trodVars_none hV
  obtain ⟨x0, rfl, rfl, rfl⟩ := open_bool Try.underlying4 (hval 0 4 v0 rfl rfl) h0
  obtain ⟨x1, rfl, rfl, rfl, wx1⟩ := open_int Try.underlying37 (hval 1 37 v1 rfl rfl) h1
  obtain ⟨x2, rfl, rfl, rfl, wx2⟩ := open_int Try.underlying3 (hval 2 3 v2 rfl rfl) h2
  have bd1 := wx1
  simp [Lit.wf, IntKind.min, IntKind.max, IntKind.signed, IntKind.bits] at bd1
  have bd2 := wx2
  simp [Lit.wf, IntKind.min, IntKind.max, IntKind.signed, IntKind.bits] at bd2
  clear hA0 hval0
  simp only [List.append_nil] at hW'
  refine (nearest_walk x0 x1 x2 (by omega) (by omega) (by omega) (by omega) W).mono fun e W' ⟨he, hw⟩ => ?_
  subst he
  subst hw
  exact ⟨_, rfl, post_of_same (pa := []) (pv := []) hW' (fun _ _ _ => trodAll_mk1 (shut_bool Try.underlying4 _)) (fun sp _ => trodAll_mk3 (shut_bool Try.underlying4 x0) (shut_int Try.underlying37 wx1) (shut_int Try.underlying3 wx2)) (fun _ _ => rfl) rfl
    (World.keptBut_refl _ _) (fun _ => rfl) (ok_one (by kernel_rfl) rfl (okWide_bool_mk Try.underlying4 _))⟩

theorem partNearest_holds : Rows.PartNearestSaid :=
  OpenClaim.holds_of_wide 6 Try.f6 rfl rfl rfl rfl rfl rfl rfl ⟨rfl, rfl, rfl, rfl, rfl⟩ rfl rfl rfl rfl rfl (by kernel_rfl) Try.func6 (by kernel_rfl)
    (of_decide_eq_true (by kernel_rfl)) (by unfold Func.isWrapper; rw [if_neg (of_decide_eq_false (by kernel_rfl))]; exact ⟨rfl, rfl⟩)
    (fun os started H enc _ => partNearest_lifted os started H enc)
end Go.Proofs.Ytdincnjmohlgiaa
