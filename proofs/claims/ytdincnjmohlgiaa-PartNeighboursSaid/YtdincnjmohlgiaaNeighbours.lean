/- quaverlaw01.PartNeighbours: nothing lies between a number and its Next: for every input the law returns true. Without conditions. -/
import Derived.Test.YtdincnjmohlgiaaW4
import Derived.Test.YtdincnjmohlgiaaPq
import Derived.ProofKit
namespace Go.Proofs.Ytdincnjmohlgiaa
open Go.RowKit Go.Proofs.Ytdincnjmohlgiaa.Fl Go.Proofs.Ytdincnjmohlgiaa.Pt
open Go.ChangeShapes Go.WideShapes Go.ChangeAt

set_option maxRecDepth 100000 in
/-- A NaN. -/
theorem neigh_nan (x : Nat) (w : World) (g0 : (FloatKind.f64.format.order x x != some .eq) = true)
    (k18 : Hid (∀ w, Calls Try.prog 18 #[.float .f64 x] w fun e' w' => e' = .returned (.int .i64 4) ∧ w = w'))
    (k31 : Hid (∀ w, Calls Try.prog 31 #[.float .f64 x] w fun e' w' => e' = .returned (.float .f64 x) ∧ w = w'))
    (k33 : Hid (∀ w, Calls Try.prog 33 #[.float .f64 x] w fun e' w' => e' = .returned (.float .f64 x) ∧ w = w')) :
    Calls Try.prog 11 #[.float .f64 x] w fun e w' => e = .returned (.bool true) ∧ w = w' := by
  go_enter Try.func11, Try.ntmps11
  go_wp2_with (first | (go_at_call 17; refine (awake_any _).mono ?_; rintro e w' ⟨rfl, rfl⟩) | (go_at_call 18; refine (k18.out _).mono ?_; rintro e w' ⟨rfl, rfl⟩) | (go_at_call 31; refine (k31.out _).mono ?_; rintro e w' ⟨rfl, rfl⟩) | (go_at_call 33; refine (k33.out _).mono ?_; rintro e w' ⟨rfl, rfl⟩))
  go_ret
  exact ⟨rfl, rfl⟩

set_option maxRecDepth 100000 in
/-- Infinity. -/
theorem neigh_inf (x a : Nat) (w : World) (g0 : (FloatKind.f64.format.order x x != some .eq) = false) (ng1 : Op.negFloat .f64 x = a)
    (k31 : Hid (∀ w, Calls Try.prog 31 #[.float .f64 x] w fun e' w' => e' = .returned (.float .f64 x) ∧ w = w'))
    (k33 : Hid (∀ w, Calls Try.prog 33 #[.float .f64 a] w fun e' w' => e' = .returned (.float .f64 a) ∧ w = w'))
    (k20 : Hid (∀ r, r < 18446744073709551616 → ∀ w, Calls Try.prog 20 #[.float .f64 r, .float .f64 r] w fun e w' => e = .returned (.bool true) ∧ w = w'))
    (k36 : Hid (∀ w, Calls Try.prog 36 #[.float .f64 x, .int .i64 1] w fun e' w' => e' = .returned (.bool true) ∧ w = w'))
    (hx : x < 18446744073709551616) (ha : a < 18446744073709551616) :
    Calls Try.prog 11 #[.float .f64 x] w fun e w' => e = .returned (.bool true) ∧ w = w' := by
  go_enter Try.func11, Try.ntmps11
  go_wp2_with (first | (go_at_call 17; refine (awake_any _).mono ?_; rintro e w' ⟨rfl, rfl⟩) | (go_at_call 31; refine (k31.out _).mono ?_; rintro e w' ⟨rfl, rfl⟩) | (go_at_call 33; refine (k33.out _).mono ?_; rintro e w' ⟨rfl, rfl⟩) | (go_at_call 36; refine (k36.out _).mono ?_; rintro e w' ⟨rfl, rfl⟩) | (go_at_call 20; refine (k20.out _ (by assumption) _).mono ?_; rintro e w' ⟨rfl, rfl⟩))
  go_ret
  exact ⟨rfl, rfl⟩

/-- The end of the law. -/
def Tail (x y : Nat) (cx cy : Int) (z : Nat) : Prop :=
  ((cx != 2) = true) ∨
  ((cx != 2) = false ∧ (cy != 2) = true) ∨
  ((cx != 2) = false ∧ (cy != 2) = false ∧ (FloatKind.f64.format.order z 103582791429521408 == some .lt) = true) ∨
  (∃ u v m : Nat, (cx != 2) = false ∧ (cy != 2) = false ∧ (FloatKind.f64.format.order z 103582791429521408 == some .lt) = false ∧
    (∀ w, (binOp .mul 31 (.float .f64 x) (.float .f64 4602678819172646912)).run Try.prog w = .ok (.float .f64 u) w) ∧
    (∀ w, (binOp .mul 31 (.float .f64 y) (.float .f64 4602678819172646912)).run Try.prog w = .ok (.float .f64 v) w) ∧
    (∀ w, (binOp .add 31 (.float .f64 u) (.float .f64 v)).run Try.prog w = .ok (.float .f64 m) w) ∧
    ((FloatKind.f64.format.order m x == some .eq) = true ∨ ((FloatKind.f64.format.order m x == some .eq) = false ∧ (FloatKind.f64.format.order m y == some .eq) = true)))

theorem nt {a b : Int} (h : a ≠ b) : (a != b) = true := by simp [h]
theorem nf {a b : Int} (h : a = b) : (a != b) = false := by simp [h]

set_option maxRecDepth 100000 in
set_option maxHeartbeats 1000000 in
/-- A number that is not infinity. -/
theorem neigh_num (x y a c z : Nat) (cx cy : Int) (w : World) (g0 : (FloatKind.f64.format.order x x != some .eq) = false) (ng1 : Op.negFloat .f64 x = a) (ng2 : Op.negFloat .f64 y = c)
    (k31 : Hid (∀ w, Calls Try.prog 31 #[.float .f64 x] w fun e' w' => e' = .returned (.float .f64 y) ∧ w = w'))
    (k33 : Hid (∀ w, Calls Try.prog 33 #[.float .f64 a] w fun e' w' => e' = .returned (.float .f64 c) ∧ w = w'))
    (k20 : Hid (∀ r, r < 18446744073709551616 → ∀ w, Calls Try.prog 20 #[.float .f64 r, .float .f64 r] w fun e w' => e = .returned (.bool true) ∧ w = w'))
    (k36 : Hid (∀ w, Calls Try.prog 36 #[.float .f64 x, .int .i64 1] w fun e' w' => e' = .returned (.bool false) ∧ w = w'))
    (k24 : Hid (∀ w, Calls Try.prog 24 #[.float .f64 x, .float .f64 y] w fun e' w' => e' = .returned (.tuple #[.int .u64 1, .int .i64 0]) ∧ w = w'))
    (k28 : Hid (∀ w, Calls Try.prog 28 #[.float .f64 x, .float .f64 y] w fun e' w' => e' = .returned (.int .i64 (-1)) ∧ w = w'))
    (k28' : Hid (∀ w, Calls Try.prog 28 #[.float .f64 y, .float .f64 x] w fun e' w' => e' = .returned (.int .i64 1) ∧ w = w'))
    (k33' : Hid (∀ w, Calls Try.prog 33 #[.float .f64 y] w fun e' w' => e' = .returned (.float .f64 x) ∧ w = w'))
    (k26 : Hid (∀ w, Calls Try.prog 26 #[.float .f64 x, .float .f64 y] w fun e' w' => e' = .returned (.bool false) ∧ w = w'))
    (k18 : Hid (∀ w, Calls Try.prog 18 #[.float .f64 x] w fun e' w' => e' = .returned (.int .i64 cx) ∧ w = w'))
    (k18' : Hid (∀ w, Calls Try.prog 18 #[.float .f64 y] w fun e' w' => e' = .returned (.int .i64 cy) ∧ w = w'))
    (k37 : Hid (∀ w, Calls Try.prog 37 #[.float .f64 x] w fun e' w' => e' = .returned (.float .f64 z) ∧ w = w'))
    (g1 : (FloatKind.f64.format.order y x == some .lt) = false)
    (hx : x < 18446744073709551616) (hc : c < 18446744073709551616) (T : Hid (Tail x y cx cy z)) :
    Calls Try.prog 11 #[.float .f64 x] w fun e w' => e = .returned (.bool true) ∧ w = w' := by
  go_enter Try.func11, Try.ntmps11
  go_wp2_with (first | (go_at_call 17; refine (awake_any _).mono ?_; rintro e w' ⟨rfl, rfl⟩) | (go_at_call 31; refine (k31.out _).mono ?_; rintro e w' ⟨rfl, rfl⟩))
  refine (k33.out _).mono ?_
  rintro e w' ⟨rfl, rfl⟩
  go_wp2_with (first | (go_at_call 20; refine (k20.out _ (by assumption) _).mono ?_; rintro e w' ⟨rfl, rfl⟩) | (go_at_call 36; refine (k36.out _).mono ?_; rintro e w' ⟨rfl, rfl⟩) | (go_at_call 24; refine (k24.out _).mono ?_; rintro e w' ⟨rfl, rfl⟩))
  refine (k28.out _).mono ?_
  rintro e w' ⟨rfl, rfl⟩
  go_wp2_with fail
  refine (k28'.out _).mono ?_
  rintro e w' ⟨rfl, rfl⟩
  go_wp2_with fail
  refine (k33'.out _).mono ?_
  rintro e w' ⟨rfl, rfl⟩
  go_wp2_with (first | (go_at_call 20; refine (k20.out _ (by assumption) _).mono ?_; rintro e w' ⟨rfl, rfl⟩) | (go_at_call 26; refine (k26.out _).mono ?_; rintro e w' ⟨rfl, rfl⟩))
  refine (k18.out _).mono ?_
  rintro e w' ⟨rfl, rfl⟩
  rcases T.out with t1 | ⟨t1, t2⟩ | ⟨t1, t2, t3⟩ | ⟨u, v, m, t1, t2, t3, f1, f2, f3, t4 | ⟨t4, t5⟩⟩
  · go_wp2_with fail
    go_ret
    exact ⟨rfl, rfl⟩
  · go_wp2_with (go_at_call 18; refine (k18'.out _).mono ?_; rintro e w' ⟨rfl, rfl⟩)
    go_ret
    exact ⟨rfl, rfl⟩
  · go_wp2_with (first | (go_at_call 18; refine (k18'.out _).mono ?_; rintro e w' ⟨rfl, rfl⟩) | (go_at_call 37; refine (k37.out _).mono ?_; rintro e w' ⟨rfl, rfl⟩))
    go_ret
    exact ⟨rfl, rfl⟩
  · go_wp2_with (first | (go_at_call 18; refine (k18'.out _).mono ?_; rintro e w' ⟨rfl, rfl⟩) | (go_at_call 37; refine (k37.out _).mono ?_; rintro e w' ⟨rfl, rfl⟩))
    go_ret
    exact ⟨rfl, rfl⟩
  · go_wp2_with (first | (go_at_call 18; refine (k18'.out _).mono ?_; rintro e w' ⟨rfl, rfl⟩) | (go_at_call 37; refine (k37.out _).mono ?_; rintro e w' ⟨rfl, rfl⟩))
    go_ret
    exact ⟨rfl, rfl⟩

theorem neighbours_walk (x : Nat) (hx : x < 18446744073709551616) (w : World) :
    Calls Try.prog 11 #[.float .f64 x] w fun e w' => e = .returned (.bool true) ∧ w = w' := by
  have k31 := Lib.hid (fun w => next_any x hx w)
  have k18 := Lib.hid (fun w => of_any x hx w)
  have k20 : Hid (∀ r, r < 18446744073709551616 → ∀ w, Calls Try.prog 20 #[.float .f64 r, .float .f64 r] w fun e w' => e = .returned (.bool true) ∧ w = w') := by
    intro r hr w
    have := eqv_any r r hr hr w
    rw [eqv_refl] at this
    exact this
  have g0 := ne_self hx
  cases hn : nan x
  · rw [hn] at g0
    have n1 := negFloat_ng x hx
    have la := ng_lt hx
    have k36 := Lib.hid (fun w => isinf_pos x hx w)
    have k33 := Lib.hid (fun w => prev_any (ng x) la w)
    rw [prv_ng hx hn] at k33
    by_cases hI : x = INF
    · have e1 : nxt x = x := by subst hI; decide
      rw [e1] at k31 k33
      rw [dt hI] at k36
      exact neigh_inf x (ng x) w g0 n1 k31 k33 k20 k36 hx la
    · obtain ⟨hn2, hr2, hp2⟩ := nan_nxt hx hn hI
      have ly := nxt_lt hx
      rw [df hI] at k36
      have n2 := negFloat_ng (nxt x) ly
      have k24 := Lib.hid (fun w => ulps_any x (nxt x) hx ly w)
      rw [ulpV_nxt hx hn hI] at k24
      have k28 := Lib.hid (fun w => order_any x (nxt x) hx ly w)
      have o1 : ordr (rnk x) (rnk (nxt x)) = -1 := by unfold ordr; rw [if_pos (by omega)]
      rw [o1] at k28
      have k28' := Lib.hid (fun w => order_any (nxt x) x ly hx w)
      have o2 : ordr (rnk (nxt x)) (rnk x) = 1 := by unfold ordr; rw [if_neg (by omega), if_pos (by omega)]
      rw [o2] at k28'
      have k33' := Lib.hid (fun w => prev_any (nxt x) ly w)
      rw [hp2] at k33'
      have k26 := Lib.hid (fun w => same_any x (nxt x) hx ly w)
      rw [o1] at k26
      have k18' := Lib.hid (fun w => of_any (nxt x) ly w)
      have k37 := Lib.hid (fun w => abs_any x hx w)
      refine neigh_num x (nxt x) (ng x) (ng (nxt x)) (x % 9223372036854775808) _ _ w g0 n1 n2 k31 k33 k20 k36 k24 k28 k28' k33' k26 k18 k18' k37 (lt_self hx hn hI) hx (ng_lt ly) (Lib.hid ?_)
      unfold Tail
      by_cases c1 : cls x = 2
      · have d1 : (((cls x : Nat) : Int) != 2) = false := nf (by omega)
        by_cases c2 : cls (nxt x) = 2
        · have d2 : (((cls (nxt x) : Nat) : Int) != 2) = false := nf (by omega)
          have hm := nan_not.1 hn
          have sl := small_lt (a := x % 9223372036854775808) (by omega) hm
          by_cases c3 : x % 9223372036854775808 < 103582791429521408
          · exact .inr (.inr (.inl ⟨d1, d2, by rw [sl]; simpa using c3⟩))
          · obtain ⟨u, v, m, f1, f2, f3, hm2⟩ := mid_facts hx c1 c2 (by omega)
            refine .inr (.inr (.inr ⟨u, v, m, d1, d2, by rw [sl]; simpa using c3, fun w => run_float_arith w .mul 31 .f64 _ _ _ f1, fun w => run_float_arith w .mul 31 .f64 _ _ _ f2, fun w => run_float_arith w .add 31 .f64 _ _ _ f3, ?_⟩))
            rcases hm2 with e | e
            · left; rw [e]; exact eq_self hx hn
            · rw [e]
              cases h : (FloatKind.f64.format.order (nxt x) x == some .eq)
              · right; exact ⟨rfl, eq_self ly hn2⟩
              · left; rfl
        · exact .inr (.inl ⟨d1, nt (by omega)⟩)
      · exact .inl (nt (by omega))
  · rw [hn] at g0
    have k33 := Lib.hid (fun w => prev_any x hx w)
    have e1 : nxt x = x := by unfold nxt; rw [hn]; simp
    have e2 : prv x = x := by unfold prv; rw [hn]; simp
    have e3 : cls x = 4 := cls_nan.2 hn
    rw [e1] at k31
    rw [e2] at k33
    rw [e3] at k18
    exact neigh_nan x w g0 k18 k31 k33

theorem Try.own : ownKnob Try.prog.godebug = none := by kernel_rfl

set_option maxRecDepth 100000 in
theorem partNeighbours_lifted (os : Os) (started : os.Started) (H : Type) (enc : TypeId × Value → H) :
    ReturnsInHanded {} Try.checked os 11 .any (Rows.partNeighboursSpec.pre6 enc Try.prog Try.f11 Rows.partNeighboursRow.domain false) (Rows.partNeighboursSpec.post enc Try.prog Try.f11 false true false false) := by
  refine returnsInHanded_of_change (C := Try.checked) Try.own started (by kernel_rfl) Try.func11
    (ChangeSpec.witness6 (enc := enc) (C := Try.checked) false ⟨#[], #[.float .f64 0], []⟩ 8 (by kernel_rfl) (by kernel_rfl) (by kernel_rfl) (by kernel_rfl)) ?_
  intro W base args ds gs before hval0 hW hcnd _
  have hval : ∀ (j : Nat) t v, Try.f11.params[j]? = some t → args[j]? = some v → Value.okWide Try.prog W .any base t v := hval0
  have hW' := hW
  obtain ⟨p, q, hA0, hV, rfl, hfz, hnd⟩ := hW
  have hA : DataW.TrodAll enc Try.prog W 0 (fun _ => true) true Try.f11.params.toList args.toList ds p := hA0
  rw [Try.params11] at hA hval
  obtain ⟨v0, d0, rfl, rfl, h0⟩ := trodAll_one hA
  obtain ⟨rfl, rfl⟩ := trodVars_none hV
  obtain ⟨x0, rfl, rfl, rfl, wx0⟩ := open_float Try.underlying31 (hval 0 31 v0 rfl rfl) h0
  have bd0 : x0 < 18446744073709551616 := by simpa [Lit.wf] using wx0
  clear hA0 hval0
  simp only [List.append_nil] at hW'
  refine (neighbours_walk x0 bd0 W).mono fun e W' ⟨he, hw⟩ => ?_
  subst he
  subst hw
  exact ⟨_, rfl, post_of_same (pa := []) (pv := []) hW' (fun _ _ _ => trodAll_mk1 (shut_bool Try.underlying4 _)) (fun sp _ => trodAll_mk1 (shut_float Try.underlying31 wx0)) (fun _ _ => rfl) rfl
    (World.keptBut_refl _ _) (fun _ => rfl) (ok_one (by kernel_rfl) rfl (okWide_bool_mk Try.underlying4 _))⟩

theorem partNeighbours_holds : Rows.PartNeighboursSaid :=
  OpenClaim.holds_of_wide 11 Try.f11 rfl rfl rfl rfl rfl rfl rfl ⟨rfl, rfl, rfl, rfl, rfl⟩ rfl rfl rfl rfl rfl (by kernel_rfl) Try.func11 (by kernel_rfl)
    (of_decide_eq_true (by kernel_rfl)) (by unfold Func.isWrapper; rw [if_neg (of_decide_eq_false (by kernel_rfl))]; exact ⟨rfl, rfl⟩)
    (fun os started H enc _ => partNeighbours_lifted os started H enc)
end Go.Proofs.Ytdincnjmohlgiaa
