/- The reference's float: nan and the infinities. -/
import Derived.Test.YtnghppgpdeghfaaGreatDoorB9
namespace Go.Proofs.YtnghppgpdeghfaaGreatDoor
open Go.RowKit Go.Proofs.YtnghppgpdeghfaaGreatDoor.Fl Go.Proofs.YtnghppgpdeghfaaGreatDoor.Pt Go.Proofs.YtnghppgpdeghfaaGreatDoor.Tx

theorem nan_call (w : World) : Calls Tryz.prog 77 #[] w fun e w' => e = .returned (.float .f64 9221120237041090561) ∧ w' = w := by
  go_enter Tryz.func77, Tryz.ntmps77
  go_wp2
  go_ret
  exact ⟨rfl, rfl⟩
theorem inf_minus (w : World) : Calls Tryz.prog 78 #[.int .i64 (-1)] w fun e w' => e = .returned (.float .f64 18442240474082181120) ∧ w' = w := by
  go_enter Tryz.func78, Tryz.ntmps78
  go_wp2
  go_ret
  exact ⟨rfl, rfl⟩
set_option linter.unusedSimpArgs false in
set_option maxRecDepth 100000 in
set_option maxHeartbeats 4000000 in
theorem rf_nan (Q a : Nat) (s : ByteArray) (hs : s.size ≤ 65536) (W : World) (h : Rr W Q s a 0 0) (ha : a ≤ s.size) (x1 : decide (s.data.toList[a]? = some 45) = false) (x2 : decide (s.data.toList[a]? = some 110) = true) (hsf : sf s.data.toList a = tk s.data.toList [110, 97, 110] a) : Calls Tryz.prog 63 #[.pointer (some ⟨Q, 0, none⟩)] W (FlP Q a s W) := by
  have hb0 := But.refl [Q] W
  have hr0 := h
  clear h
  have HS := Lib.hid hsf
  clear hsf
  go_enter Tryz.func63, Tryz.ntmps63
  have tok : True := trivial
  go_wp2_with (go_at_call 42; have _t := tok; clear tok; refine (is_c 45 false hr0 hb0 x1).mono ?_; rintro e w1 ⟨rfl, hr1, hb1⟩)
  have tok : True := trivial
  go_wp2_with (go_at_call 42; have _t := tok; clear tok; refine (is_c 110 true hr1 hb1 x2).mono ?_; rintro e w2 ⟨rfl, hr2, hb2⟩)
  have tok : True := trivial
  go_wp2_with (go_at_call 34; have _t := tok; clear tok; refine (wt_any [110, 97, 110] (by decide) hs ha hr2 hb2).mono ?_; rintro e w3 ⟨rfl, hr3, hb3⟩)
  go_wp2_with (go_at_call 77; refine (nan_call _).mono ?_; rintro e ww ⟨rfl, hww⟩; rw [hww]; clear hww ww)
  refine bodyPost_ret (results_tmp2 rfl _ _ _) rfl ⟨hb3, _, _, rfl, (by decide), ?_⟩
  have hfl : fl 9221120237041090561 = [110, 97, 110] := by decide +kernel
  rcases hr3.out with ⟨b, k, hr⟩ | ⟨b, k, hr⟩
  · refine .inl ⟨b, HS.out.trans k, hr, fun _ => ?_, fun _ => rfl⟩
    have hp : Is s.data.toList a [110, 97, 110] b := tk_is _ _ _ _ k
    rw [hp.piece]; exact hfl
  · exact .inr ⟨b, b, HS.out.trans k, hr⟩
set_option linter.unusedSimpArgs false in
set_option maxRecDepth 100000 in
set_option maxHeartbeats 4000000 in
theorem rf_inf (Q a : Nat) (s : ByteArray) (hs : s.size ≤ 65536) (W : World) (h : Rr W Q s a 0 0) (ha : a ≤ s.size) (x1 : decide (s.data.toList[a]? = some 45) = false) (x2 : decide (s.data.toList[a]? = some 110) = false) (x3 : decide (s.data.toList[a]? = some 105) = true) (hsf : sf s.data.toList a = tk s.data.toList [105, 110, 102] a) : Calls Tryz.prog 63 #[.pointer (some ⟨Q, 0, none⟩)] W (FlP Q a s W) := by
  have hb0 := But.refl [Q] W
  have hr0 := h
  clear h
  have HS := Lib.hid hsf
  clear hsf
  go_enter Tryz.func63, Tryz.ntmps63
  have tok : True := trivial
  go_wp2_with (go_at_call 42; have _t := tok; clear tok; refine (is_c 45 false hr0 hb0 x1).mono ?_; rintro e w1 ⟨rfl, hr1, hb1⟩)
  have tok : True := trivial
  go_wp2_with (go_at_call 42; have _t := tok; clear tok; refine (is_c 110 false hr1 hb1 x2).mono ?_; rintro e w2 ⟨rfl, hr2, hb2⟩)
  have tok : True := trivial
  go_wp2_with (go_at_call 42; have _t := tok; clear tok; refine (is_c 105 true hr2 hb2 x3).mono ?_; rintro e w3 ⟨rfl, hr3, hb3⟩)
  have tok : True := trivial
  go_wp2_with (go_at_call 34; have _t := tok; clear tok; refine (wt_any [105, 110, 102] (by decide) hs ha hr3 hb3).mono ?_; rintro e w4 ⟨rfl, hr4, hb4⟩)
  go_wp2_with (go_at_call 78; refine (inf_pos _).mono ?_; rintro e ww ⟨rfl, hww⟩; rw [hww]; clear hww ww)
  refine bodyPost_ret (results_tmp2 rfl _ _ _) rfl ⟨hb4, _, _, rfl, (by decide), ?_⟩
  have hfl : fl 9218868437227405312 = [105, 110, 102] := by decide +kernel
  rcases hr4.out with ⟨b, k, hr⟩ | ⟨b, k, hr⟩
  · refine .inl ⟨b, HS.out.trans k, hr, fun _ => ?_, fun _ => rfl⟩
    have hp : Is s.data.toList a [105, 110, 102] b := tk_is _ _ _ _ k
    rw [hp.piece]; exact hfl
  · exact .inr ⟨b, b, HS.out.trans k, hr⟩
set_option linter.unusedSimpArgs false in
set_option maxRecDepth 100000 in
set_option maxHeartbeats 4000000 in
theorem rf_infm (Q a : Nat) (s : ByteArray) (hs : s.size ≤ 65536) (W : World) (h : Rr W Q s a 0 0) (a1 : Nat) (ha1 : a1 = a + 1) (hal : a1 ≤ s.size) (x1 : decide (s.data.toList[a]? = some 45) = true) (x2 : decide (s.data.toList[a1]? = some 110) = false) (x3 : decide (s.data.toList[a1]? = some 105) = true) (hsf : sf s.data.toList a = tk s.data.toList [105, 110, 102] a1) (hI : Is s.data.toList a [45] a1) : Calls Tryz.prog 63 #[.pointer (some ⟨Q, 0, none⟩)] W (FlP Q a s W) := by
  have hb0 := But.refl [Q] W
  have hr0 := h
  have e1 : IntKind.i64.wrap ((a : Int) + 1) = (a1 : Int) := by rw [IntKind.wrap_i64]; omega
  clear ha1
  clear h
  have HS := Lib.hid hsf
  clear hsf
  have HI := Lib.hid hI
  clear hI
  go_enter Tryz.func63, Tryz.ntmps63
  have tok : True := trivial
  go_wp2_with (go_at_call 42; have _t := tok; clear tok; refine (is_c 45 true hr0 hb0 x1).mono ?_; rintro e w1 ⟨rfl, hr1, hb1⟩; obtain ⟨z0, z1, z2, z3, zf⟩ := hr1.cells; have zf1 := zf 1; clear zf)
  have hr2 := hr1.step a1
  have hb2 := hb1.setCell ⟨Q, 1, none⟩ (.int .i64 (a1 : Int)) (.inl (by simp))
  have tok : True := trivial
  go_wp2_with (go_at_call 42; have _t := tok; clear tok; refine (is_c 110 false hr2 hb2 x2).mono ?_; rintro e w3 ⟨rfl, hr3, hb3⟩)
  have tok : True := trivial
  go_wp2_with (go_at_call 42; have _t := tok; clear tok; refine (is_c 105 true hr3 hb3 x3).mono ?_; rintro e w4 ⟨rfl, hr4, hb4⟩)
  have tok : True := trivial
  go_wp2_with (go_at_call 34; have _t := tok; clear tok; refine (wt_any [105, 110, 102] (by decide) hs hal hr4 hb4).mono ?_; rintro e w5 ⟨rfl, hr5, hb5⟩)
  go_wp2_with (go_at_call 78; refine (inf_minus _).mono ?_; rintro e ww ⟨rfl, hww⟩; rw [hww]; clear hww ww)
  refine bodyPost_ret (results_tmp2 rfl _ _ _) rfl ⟨hb5, _, _, rfl, (by decide), ?_⟩
  have hfl : fl 18442240474082181120 = [45, 105, 110, 102] := by decide +kernel
  rcases hr5.out with ⟨b, k, hr⟩ | ⟨b, k, hr⟩
  · refine .inl ⟨b, HS.out.trans k, hr, fun _ => ?_, fun _ => rfl⟩
    have hp : Is s.data.toList a [45, 105, 110, 102] b := HI.out.trans (tk_is _ _ _ _ k)
    rw [hp.piece]; exact hfl
  · exact .inr ⟨b, b, HS.out.trans k, hr⟩

end Go.Proofs.YtnghppgpdeghfaaGreatDoor
