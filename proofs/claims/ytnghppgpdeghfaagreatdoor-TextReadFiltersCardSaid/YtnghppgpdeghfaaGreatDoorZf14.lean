/- The reference's float: a minus. The reference's float: a minus, an n behind it. -/
import Derived.Test.YtnghppgpdeghfaaGreatDoorZf13
namespace Go.Proofs.YtnghppgpdeghfaaGreatDoor
open Go.RowKit Go.Proofs.YtnghppgpdeghfaaGreatDoor.Fl Go.Proofs.YtnghppgpdeghfaaGreatDoor.Pt Go.Proofs.YtnghppgpdeghfaaGreatDoor.Tx

set_option linter.unusedSimpArgs false in
set_option maxRecDepth 100000 in
set_option maxHeartbeats 4000000 in
theorem rf_m1 (Q a : Nat) (s : ByteArray) (hs : s.size ≤ 65536) (W : World) (h : Rr W Q s a 0 0) (a1 : Nat) (ha1 : a1 = a + 1) (hal : a1 ≤ s.size) (x1 : decide (s.data.toList[a]? = some 45) = true) (x2 : decide (s.data.toList[a1]? = some 110) = false) (x3 : decide (s.data.toList[a1]? = some 105) = false) (b1 : Nat) (k1 : tk s.data.toList [48, 120] a1 = (false, b1)) (hsf : sf s.data.toList a = (false, b1)) : Calls Tryz.prog 63 #[.pointer (some ⟨Q, 0, none⟩)] W (FlP Q a s W) := by
  have hb0 := But.refl [Q] W
  have hr0 := h
  have e1 : IntKind.i64.wrap ((a : Int) + 1) = (a1 : Int) := by rw [IntKind.wrap_i64]; omega
  clear ha1
  clear h
  have HS := Lib.hid hsf
  clear hsf
  go_enter Tryz.func63, Tryz.ntmps63
  have tok : True := trivial
  go_wp2_with (go_at_call 42; have _t := tok; clear tok; refine (is_c 45 true hr0 hb0 x1).mono ?_; rintro e w1 ⟨rfl, hr1, hb1⟩; obtain ⟨z0, z1, z2, z3, zf⟩ := hr1.cells; have zf1 := zf 1; clear zf)
  have hr2 := hr1.step a1
  have hb2 := hb1.setCell ⟨Q, 1, none⟩ (.int .i64 (a1 : Int)) (.inl (by simp))
  have tok : True := trivial
  go_wp2_with (go_at_call 42; have _t := tok; clear tok; refine (is_c 110 false hr2 hb2 x2).mono ?_; rintro e w3 ⟨rfl, hr3, hb3⟩)
  have tok : True := trivial
  go_wp2_with (go_at_call 42; have _t := tok; clear tok; refine (is_c 105 false hr3 hb3 x3).mono ?_; rintro e w4 ⟨rfl, hr4, hb4⟩)
  have tok : True := trivial
  go_wp2_with (go_at_call 34; have _t := tok; clear tok; refine (wt_no [48, 120] (by decide) hs hal hr4 hb4 k1).mono ?_; rintro e w5 ⟨rfl, hr5, hb5⟩)
  have tok : True := trivial
  go_wp2_with (go_at_call 79; have _t := tok; clear tok; refine (ru_f true false hr5 hb5).mono ?_; rintro e w6 ⟨rfl, hr6, hb6⟩)
  have tok : True := trivial
  go_wp2_with (go_at_call 34; have _t := tok; clear tok; refine (wt_f [112] (by decide) hr6 hb6).mono ?_; rintro e w7 ⟨rfl, hr7, hb7⟩)
  have tok : True := trivial
  go_wp2_with (go_at_call 42; have _t := tok; clear tok; refine (is_f 45 hr7 hb7).mono ?_; rintro e w8 ⟨rfl, hr8, hb8⟩)
  have tok : True := trivial
  go_wp2_with (go_at_call 79; have _t := tok; clear tok; refine (ru_f false false hr8 hb8).mono ?_; rintro e w9 ⟨rfl, hr9, hb9⟩; obtain ⟨y0, y1, y2, y3, yf⟩ := hr9.cells; clear yf)
  exact bodyPost_ret (results_tmp2 rfl _ _ _) rfl ⟨hb9, _, _, rfl, (by decide), .inr ⟨b1, _, HS.out, hr9⟩⟩
set_option linter.unusedSimpArgs false in
set_option maxRecDepth 100000 in
set_option maxHeartbeats 4000000 in
theorem rf_m2 (Q a : Nat) (s : ByteArray) (hs : s.size ≤ 65536) (W : World) (h : Rr W Q s a 0 0) (a1 : Nat) (ha1 : a1 = a + 1) (hal : a1 ≤ s.size) (x1 : decide (s.data.toList[a]? = some 45) = true) (x2 : decide (s.data.toList[a1]? = some 110) = false) (x3 : decide (s.data.toList[a1]? = some 105) = false) (b1 : Nat) (k1 : tk s.data.toList [48, 120] a1 = (true, b1)) (l1 : b1 ≤ s.size) (b2 : Nat) (k2 : rdg true false s.data.toList b1 = (false, b2)) (hsf : sf s.data.toList a = (false, b2)) : Calls Tryz.prog 63 #[.pointer (some ⟨Q, 0, none⟩)] W (FlP Q a s W) := by
  have hb0 := But.refl [Q] W
  have hr0 := h
  have e1 : IntKind.i64.wrap ((a : Int) + 1) = (a1 : Int) := by rw [IntKind.wrap_i64]; omega
  clear ha1
  clear h
  have HS := Lib.hid hsf
  clear hsf
  go_enter Tryz.func63, Tryz.ntmps63
  have tok : True := trivial
  go_wp2_with (go_at_call 42; have _t := tok; clear tok; refine (is_c 45 true hr0 hb0 x1).mono ?_; rintro e w1 ⟨rfl, hr1, hb1⟩; obtain ⟨z0, z1, z2, z3, zf⟩ := hr1.cells; have zf1 := zf 1; clear zf)
  have hr2 := hr1.step a1
  have hb2 := hb1.setCell ⟨Q, 1, none⟩ (.int .i64 (a1 : Int)) (.inl (by simp))
  have tok : True := trivial
  go_wp2_with (go_at_call 42; have _t := tok; clear tok; refine (is_c 110 false hr2 hb2 x2).mono ?_; rintro e w3 ⟨rfl, hr3, hb3⟩)
  have tok : True := trivial
  go_wp2_with (go_at_call 42; have _t := tok; clear tok; refine (is_c 105 false hr3 hb3 x3).mono ?_; rintro e w4 ⟨rfl, hr4, hb4⟩)
  have tok : True := trivial
  go_wp2_with (go_at_call 34; have _t := tok; clear tok; refine (wt_ok [48, 120] (by decide) hs hal hr4 hb4 k1).mono ?_; rintro e w5 ⟨rfl, hr5, hb5⟩)
  have tok : True := trivial
  go_wp2_with (go_at_call 79; have _t := tok; clear tok; refine (ru_no true false hs l1 hr5 hb5 k2).mono ?_; rintro e w6 ⟨rfl, hr6, hb6⟩)
  have tok : True := trivial
  go_wp2_with (go_at_call 34; have _t := tok; clear tok; refine (wt_f [112] (by decide) hr6 hb6).mono ?_; rintro e w7 ⟨rfl, hr7, hb7⟩)
  have tok : True := trivial
  go_wp2_with (go_at_call 42; have _t := tok; clear tok; refine (is_f 45 hr7 hb7).mono ?_; rintro e w8 ⟨rfl, hr8, hb8⟩)
  have tok : True := trivial
  go_wp2_with (go_at_call 79; have _t := tok; clear tok; refine (ru_f false false hr8 hb8).mono ?_; rintro e w9 ⟨rfl, hr9, hb9⟩; obtain ⟨y0, y1, y2, y3, yf⟩ := hr9.cells; clear yf)
  exact bodyPost_ret (results_tmp2 rfl _ _ _) rfl ⟨hb9, _, _, rfl, (by decide), .inr ⟨b2, _, HS.out, hr9⟩⟩
set_option linter.unusedSimpArgs false in
set_option maxRecDepth 100000 in
set_option maxHeartbeats 4000000 in
theorem rf_m3 (Q a : Nat) (s : ByteArray) (hs : s.size ≤ 65536) (W : World) (h : Rr W Q s a 0 0) (a1 : Nat) (ha1 : a1 = a + 1) (hal : a1 ≤ s.size) (x1 : decide (s.data.toList[a]? = some 45) = true) (x2 : decide (s.data.toList[a1]? = some 110) = false) (x3 : decide (s.data.toList[a1]? = some 105) = false) (b1 : Nat) (k1 : tk s.data.toList [48, 120] a1 = (true, b1)) (l1 : b1 ≤ s.size) (b2 : Nat) (M : List UInt8) (hM : Is s.data.toList b1 M b2) (k2 : rdg true false s.data.toList b1 = (true, b2)) (l2 : b2 ≤ s.size) (b3 : Nat) (k3 : tk s.data.toList [112] b2 = (false, b3)) (hsf : sf s.data.toList a = (false, b3)) : Calls Tryz.prog 63 #[.pointer (some ⟨Q, 0, none⟩)] W (FlP Q a s W) := by
  have hb0 := But.refl [Q] W
  have hr0 := h
  have e1 : IntKind.i64.wrap ((a : Int) + 1) = (a1 : Int) := by rw [IntKind.wrap_i64]; omega
  clear ha1
  clear h
  have HM := Lib.hid hM
  clear hM
  have HS := Lib.hid hsf
  clear hsf
  go_enter Tryz.func63, Tryz.ntmps63
  have tok : True := trivial
  go_wp2_with (go_at_call 42; have _t := tok; clear tok; refine (is_c 45 true hr0 hb0 x1).mono ?_; rintro e w1 ⟨rfl, hr1, hb1⟩; obtain ⟨z0, z1, z2, z3, zf⟩ := hr1.cells; have zf1 := zf 1; clear zf)
  have hr2 := hr1.step a1
  have hb2 := hb1.setCell ⟨Q, 1, none⟩ (.int .i64 (a1 : Int)) (.inl (by simp))
  have tok : True := trivial
  go_wp2_with (go_at_call 42; have _t := tok; clear tok; refine (is_c 110 false hr2 hb2 x2).mono ?_; rintro e w3 ⟨rfl, hr3, hb3⟩)
  have tok : True := trivial
  go_wp2_with (go_at_call 42; have _t := tok; clear tok; refine (is_c 105 false hr3 hb3 x3).mono ?_; rintro e w4 ⟨rfl, hr4, hb4⟩)
  have tok : True := trivial
  go_wp2_with (go_at_call 34; have _t := tok; clear tok; refine (wt_ok [48, 120] (by decide) hs hal hr4 hb4 k1).mono ?_; rintro e w5 ⟨rfl, hr5, hb5⟩)
  have tok : True := trivial
  go_wp2_with (go_at_call 79; have _t := tok; clear tok; refine (ru_ok true false M hs l1 hr5 hb5 HM.out k2).mono ?_; rintro e w6 ⟨rfl, hr6, hb6⟩)
  have tok : True := trivial
  go_wp2_with (go_at_call 34; have _t := tok; clear tok; refine (wt_no [112] (by decide) hs l2 hr6 hb6 k3).mono ?_; rintro e w7 ⟨rfl, hr7, hb7⟩)
  have tok : True := trivial
  go_wp2_with (go_at_call 42; have _t := tok; clear tok; refine (is_f 45 hr7 hb7).mono ?_; rintro e w8 ⟨rfl, hr8, hb8⟩)
  have tok : True := trivial
  go_wp2_with (go_at_call 79; have _t := tok; clear tok; refine (ru_f false false hr8 hb8).mono ?_; rintro e w9 ⟨rfl, hr9, hb9⟩; obtain ⟨y0, y1, y2, y3, yf⟩ := hr9.cells; clear yf)
  exact bodyPost_ret (results_tmp2 rfl _ _ _) rfl ⟨hb9, _, _, rfl, (by decide), .inr ⟨b3, _, HS.out, hr9⟩⟩
set_option linter.unusedSimpArgs false in
set_option maxRecDepth 100000 in
set_option maxHeartbeats 4000000 in
theorem rf_m4a (Q a : Nat) (s : ByteArray) (hs : s.size ≤ 65536) (W : World) (h : Rr W Q s a 0 0) (a1 : Nat) (ha1 : a1 = a + 1) (hal : a1 ≤ s.size) (x1 : decide (s.data.toList[a]? = some 45) = true) (x2 : decide (s.data.toList[a1]? = some 110) = false) (x3 : decide (s.data.toList[a1]? = some 105) = false) (b1 : Nat) (k1 : tk s.data.toList [48, 120] a1 = (true, b1)) (l1 : b1 ≤ s.size) (b2 : Nat) (M : List UInt8) (hM : Is s.data.toList b1 M b2) (k2 : rdg true false s.data.toList b1 = (true, b2)) (l2 : b2 ≤ s.size) (b3 : Nat) (k3 : tk s.data.toList [112] b2 = (true, b3)) (l3 : b3 ≤ s.size) (x4 : decide (s.data.toList[b3]? = some 45) = false) (b5 : Nat) (k5 : rdg false false s.data.toList b3 = (false, b5)) (hsf : sf s.data.toList a = (false, b5)) : Calls Tryz.prog 63 #[.pointer (some ⟨Q, 0, none⟩)] W (FlP Q a s W) := by
  have hb0 := But.refl [Q] W
  have hr0 := h
  have e1 : IntKind.i64.wrap ((a : Int) + 1) = (a1 : Int) := by rw [IntKind.wrap_i64]; omega
  clear ha1
  clear h
  have HM := Lib.hid hM
  clear hM
  have HS := Lib.hid hsf
  clear hsf
  go_enter Tryz.func63, Tryz.ntmps63
  have tok : True := trivial
  go_wp2_with (go_at_call 42; have _t := tok; clear tok; refine (is_c 45 true hr0 hb0 x1).mono ?_; rintro e w1 ⟨rfl, hr1, hb1⟩; obtain ⟨z0, z1, z2, z3, zf⟩ := hr1.cells; have zf1 := zf 1; clear zf)
  have hr2 := hr1.step a1
  have hb2 := hb1.setCell ⟨Q, 1, none⟩ (.int .i64 (a1 : Int)) (.inl (by simp))
  have tok : True := trivial
  go_wp2_with (go_at_call 42; have _t := tok; clear tok; refine (is_c 110 false hr2 hb2 x2).mono ?_; rintro e w3 ⟨rfl, hr3, hb3⟩)
  have tok : True := trivial
  go_wp2_with (go_at_call 42; have _t := tok; clear tok; refine (is_c 105 false hr3 hb3 x3).mono ?_; rintro e w4 ⟨rfl, hr4, hb4⟩)
  have tok : True := trivial
  go_wp2_with (go_at_call 34; have _t := tok; clear tok; refine (wt_ok [48, 120] (by decide) hs hal hr4 hb4 k1).mono ?_; rintro e w5 ⟨rfl, hr5, hb5⟩)
  have tok : True := trivial
  go_wp2_with (go_at_call 79; have _t := tok; clear tok; refine (ru_ok true false M hs l1 hr5 hb5 HM.out k2).mono ?_; rintro e w6 ⟨rfl, hr6, hb6⟩)
  have tok : True := trivial
  go_wp2_with (go_at_call 34; have _t := tok; clear tok; refine (wt_ok [112] (by decide) hs l2 hr6 hb6 k3).mono ?_; rintro e w7 ⟨rfl, hr7, hb7⟩)
  have tok : True := trivial
  go_wp2_with (go_at_call 42; have _t := tok; clear tok; refine (is_c 45 false hr7 hb7 x4).mono ?_; rintro e w8 ⟨rfl, hr8, hb8⟩)
  have tok : True := trivial
  go_wp2_with (go_at_call 79; have _t := tok; clear tok; refine (ru_no false false hs l3 hr8 hb8 k5).mono ?_; rintro e w9 ⟨rfl, hr9, hb9⟩; obtain ⟨y0, y1, y2, y3, yf⟩ := hr9.cells; clear yf)
  exact bodyPost_ret (results_tmp2 rfl _ _ _) rfl ⟨hb9, _, _, rfl, (by decide), .inr ⟨b5, _, HS.out, hr9⟩⟩
set_option linter.unusedSimpArgs false in
set_option maxRecDepth 100000 in
set_option maxHeartbeats 4000000 in
theorem rf_m4b (Q a : Nat) (s : ByteArray) (hs : s.size ≤ 65536) (W : World) (h : Rr W Q s a 0 0) (a1 : Nat) (ha1 : a1 = a + 1) (hal : a1 ≤ s.size) (x1 : decide (s.data.toList[a]? = some 45) = true) (x2 : decide (s.data.toList[a1]? = some 110) = false) (x3 : decide (s.data.toList[a1]? = some 105) = false) (b1 : Nat) (k1 : tk s.data.toList [48, 120] a1 = (true, b1)) (l1 : b1 ≤ s.size) (b2 : Nat) (M : List UInt8) (hM : Is s.data.toList b1 M b2) (k2 : rdg true false s.data.toList b1 = (true, b2)) (l2 : b2 ≤ s.size) (b3 : Nat) (k3 : tk s.data.toList [112] b2 = (true, b3)) (_l3 : b3 ≤ s.size) (x4 : decide (s.data.toList[b3]? = some 45) = true) (b4 : Nat) (hb4 : b4 = b3 + 1) (l4 : b4 ≤ s.size) (b5 : Nat) (k5 : rdg false true s.data.toList b4 = (false, b5)) (hsf : sf s.data.toList a = (false, b5)) : Calls Tryz.prog 63 #[.pointer (some ⟨Q, 0, none⟩)] W (FlP Q a s W) := by
  have hb0 := But.refl [Q] W
  have hr0 := h
  have e1 : IntKind.i64.wrap ((a : Int) + 1) = (a1 : Int) := by rw [IntKind.wrap_i64]; omega
  clear ha1
  clear h
  have HM := Lib.hid hM
  clear hM
  have e4 : IntKind.i64.wrap ((b3 : Int) + 1) = (b4 : Int) := by rw [IntKind.wrap_i64]; omega
  clear hb4
  have HS := Lib.hid hsf
  clear hsf
  go_enter Tryz.func63, Tryz.ntmps63
  have tok : True := trivial
  go_wp2_with (go_at_call 42; have _t := tok; clear tok; refine (is_c 45 true hr0 hb0 x1).mono ?_; rintro e w1 ⟨rfl, hr1, hb1⟩; obtain ⟨z0, z1, z2, z3, zf⟩ := hr1.cells; have zf1 := zf 1; clear zf)
  have hr2 := hr1.step a1
  have hb2 := hb1.setCell ⟨Q, 1, none⟩ (.int .i64 (a1 : Int)) (.inl (by simp))
  have tok : True := trivial
  go_wp2_with (go_at_call 42; have _t := tok; clear tok; refine (is_c 110 false hr2 hb2 x2).mono ?_; rintro e w3 ⟨rfl, hr3, hb3⟩)
  have tok : True := trivial
  go_wp2_with (go_at_call 42; have _t := tok; clear tok; refine (is_c 105 false hr3 hb3 x3).mono ?_; rintro e w4 ⟨rfl, hr4, hb4⟩)
  have tok : True := trivial
  go_wp2_with (go_at_call 34; have _t := tok; clear tok; refine (wt_ok [48, 120] (by decide) hs hal hr4 hb4 k1).mono ?_; rintro e w5 ⟨rfl, hr5, hb5⟩)
  have tok : True := trivial
  go_wp2_with (go_at_call 79; have _t := tok; clear tok; refine (ru_ok true false M hs l1 hr5 hb5 HM.out k2).mono ?_; rintro e w6 ⟨rfl, hr6, hb6⟩)
  have tok : True := trivial
  go_wp2_with (go_at_call 34; have _t := tok; clear tok; refine (wt_ok [112] (by decide) hs l2 hr6 hb6 k3).mono ?_; rintro e w7 ⟨rfl, hr7, hb7⟩)
  have tok : True := trivial
  go_wp2_with (go_at_call 42; have _t := tok; clear tok; refine (is_c 45 true hr7 hb7 x4).mono ?_; rintro e w8 ⟨rfl, hr8, hb8⟩; obtain ⟨z0, z1, z2, z3, zf⟩ := hr8.cells; have zf1 := zf 1; clear zf)
  have hr9 := hr8.step b4
  have hb9 := hb8.setCell ⟨Q, 1, none⟩ (.int .i64 (b4 : Int)) (.inl (by simp))
  have tok : True := trivial
  go_wp2_with (go_at_call 79; have _t := tok; clear tok; refine (ru_no false true hs l4 hr9 hb9 k5).mono ?_; rintro e w10 ⟨rfl, hr10, hb10⟩; obtain ⟨y0, y1, y2, y3, yf⟩ := hr10.cells; clear yf)
  exact bodyPost_ret (results_tmp2 rfl _ _ _) rfl ⟨hb10, _, _, rfl, (by decide), .inr ⟨b5, _, HS.out, hr10⟩⟩
set_option linter.unusedSimpArgs false in
set_option maxRecDepth 100000 in
set_option maxHeartbeats 4000000 in
theorem rf_m5a (Q a : Nat) (s : ByteArray) (hs : s.size ≤ 65536) (W : World) (h : Rr W Q s a 0 0) (a1 : Nat) (ha1 : a1 = a + 1) (hal : a1 ≤ s.size) (x1 : decide (s.data.toList[a]? = some 45) = true) (x2 : decide (s.data.toList[a1]? = some 110) = false) (x3 : decide (s.data.toList[a1]? = some 105) = false) (b1 : Nat) (k1 : tk s.data.toList [48, 120] a1 = (true, b1)) (l1 : b1 ≤ s.size) (b2 : Nat) (M : List UInt8) (hM : Is s.data.toList b1 M b2) (k2 : rdg true false s.data.toList b1 = (true, b2)) (l2 : b2 ≤ s.size) (b3 : Nat) (k3 : tk s.data.toList [112] b2 = (true, b3)) (l3 : b3 ≤ s.size) (x4 : decide (s.data.toList[b3]? = some 45) = false) (b5 : Nat) (E : List UInt8) (hE : Is s.data.toList b3 E b5) (k5 : rdg false false s.data.toList b3 = (true, b5)) (dM : ∀ c ∈ M, isH c = true) (dE : ∀ c ∈ E, isD c = true) (hsf : sf s.data.toList a = (true, b5)) (hI : Is s.data.toList a (tok true M (pwT false E)) b5) : Calls Tryz.prog 63 #[.pointer (some ⟨Q, 0, none⟩)] W (FlP Q a s W) := by
  have hb0 := But.refl [Q] W
  have hr0 := h
  have e1 : IntKind.i64.wrap ((a : Int) + 1) = (a1 : Int) := by rw [IntKind.wrap_i64]; omega
  clear ha1
  clear h
  have HM := Lib.hid hM
  clear hM
  have HS := Lib.hid hsf
  have HI := Lib.hid hI
  have HE := Lib.hid hE
  have DM := Lib.hid dM
  have DE := Lib.hid dE
  clear hsf hI hE dM dE
  go_enter Tryz.func63, Tryz.ntmps63
  have tok : True := trivial
  go_wp2_with (go_at_call 42; have _t := tok; clear tok; refine (is_c 45 true hr0 hb0 x1).mono ?_; rintro e w1 ⟨rfl, hr1, hb1⟩; obtain ⟨z0, z1, z2, z3, zf⟩ := hr1.cells; have zf1 := zf 1; clear zf)
  have hr2 := hr1.step a1
  have hb2 := hb1.setCell ⟨Q, 1, none⟩ (.int .i64 (a1 : Int)) (.inl (by simp))
  have tok : True := trivial
  go_wp2_with (go_at_call 42; have _t := tok; clear tok; refine (is_c 110 false hr2 hb2 x2).mono ?_; rintro e w3 ⟨rfl, hr3, hb3⟩)
  have tok : True := trivial
  go_wp2_with (go_at_call 42; have _t := tok; clear tok; refine (is_c 105 false hr3 hb3 x3).mono ?_; rintro e w4 ⟨rfl, hr4, hb4⟩)
  have tok : True := trivial
  go_wp2_with (go_at_call 34; have _t := tok; clear tok; refine (wt_ok [48, 120] (by decide) hs hal hr4 hb4 k1).mono ?_; rintro e w5 ⟨rfl, hr5, hb5⟩)
  have tok : True := trivial
  go_wp2_with (go_at_call 79; have _t := tok; clear tok; refine (ru_ok true false M hs l1 hr5 hb5 HM.out k2).mono ?_; rintro e w6 ⟨rfl, hr6, hb6⟩)
  have tok : True := trivial
  go_wp2_with (go_at_call 34; have _t := tok; clear tok; refine (wt_ok [112] (by decide) hs l2 hr6 hb6 k3).mono ?_; rintro e w7 ⟨rfl, hr7, hb7⟩)
  have tok : True := trivial
  go_wp2_with (go_at_call 42; have _t := tok; clear tok; refine (is_c 45 false hr7 hb7 x4).mono ?_; rintro e w8 ⟨rfl, hr8, hb8⟩)
  have tok : True := trivial
  go_wp2_with (go_at_call 79; have _t := tok; clear tok; refine (ru_ok false false E hs l3 hr8 hb8 HE.out k5).mono ?_; rintro e w9 ⟨rfl, hr9, hb9⟩; obtain ⟨y0, y1, y2, y3, yf⟩ := hr9.cells; clear yf)
  have tok : True := trivial
  go_wp2_with (go_at_call 80; have _t := tok; clear tok; refine (value_any true false M E DM.out DE.out _).mono ?_; rintro e wv ⟨⟨x, v, rfl, hx, hv1, hv2⟩, hbv⟩; have HV1 := Lib.hid hv1; have HV2 := Lib.hid hv2; clear hv1 hv2)
  exact bodyPost_ret (results_tmp2 rfl _ _ _) rfl ⟨hb9.trans (hbv.weak (by simp)), x, v, rfl, hx, .inl ⟨b5, HS.out, hr9.keep hbv (by simp), fun h => (HV1.out h).trans HI.out.piece.symm, fun ⟨y, hy, hR⟩ => (HV2.out y hy (hR.trans HI.out.piece)).1⟩⟩
set_option linter.unusedSimpArgs false in
set_option maxRecDepth 100000 in
set_option maxHeartbeats 4000000 in
theorem rf_m5b (Q a : Nat) (s : ByteArray) (hs : s.size ≤ 65536) (W : World) (h : Rr W Q s a 0 0) (a1 : Nat) (ha1 : a1 = a + 1) (hal : a1 ≤ s.size) (x1 : decide (s.data.toList[a]? = some 45) = true) (x2 : decide (s.data.toList[a1]? = some 110) = false) (x3 : decide (s.data.toList[a1]? = some 105) = false) (b1 : Nat) (k1 : tk s.data.toList [48, 120] a1 = (true, b1)) (l1 : b1 ≤ s.size) (b2 : Nat) (M : List UInt8) (hM : Is s.data.toList b1 M b2) (k2 : rdg true false s.data.toList b1 = (true, b2)) (l2 : b2 ≤ s.size) (b3 : Nat) (k3 : tk s.data.toList [112] b2 = (true, b3)) (_l3 : b3 ≤ s.size) (x4 : decide (s.data.toList[b3]? = some 45) = true) (b4 : Nat) (hb4 : b4 = b3 + 1) (l4 : b4 ≤ s.size) (b5 : Nat) (E : List UInt8) (hE : Is s.data.toList b4 E b5) (k5 : rdg false true s.data.toList b4 = (true, b5)) (dM : ∀ c ∈ M, isH c = true) (dE : ∀ c ∈ E, isD c = true) (hsf : sf s.data.toList a = (true, b5)) (hI : Is s.data.toList a (tok true M (pwT true E)) b5) : Calls Tryz.prog 63 #[.pointer (some ⟨Q, 0, none⟩)] W (FlP Q a s W) := by
  have hb0 := But.refl [Q] W
  have hr0 := h
  have e1 : IntKind.i64.wrap ((a : Int) + 1) = (a1 : Int) := by rw [IntKind.wrap_i64]; omega
  clear ha1
  clear h
  have HM := Lib.hid hM
  clear hM
  have e4 : IntKind.i64.wrap ((b3 : Int) + 1) = (b4 : Int) := by rw [IntKind.wrap_i64]; omega
  clear hb4
  have HS := Lib.hid hsf
  have HI := Lib.hid hI
  have HE := Lib.hid hE
  have DM := Lib.hid dM
  have DE := Lib.hid dE
  clear hsf hI hE dM dE
  go_enter Tryz.func63, Tryz.ntmps63
  have tok : True := trivial
  go_wp2_with (go_at_call 42; have _t := tok; clear tok; refine (is_c 45 true hr0 hb0 x1).mono ?_; rintro e w1 ⟨rfl, hr1, hb1⟩; obtain ⟨z0, z1, z2, z3, zf⟩ := hr1.cells; have zf1 := zf 1; clear zf)
  have hr2 := hr1.step a1
  have hb2 := hb1.setCell ⟨Q, 1, none⟩ (.int .i64 (a1 : Int)) (.inl (by simp))
  have tok : True := trivial
  go_wp2_with (go_at_call 42; have _t := tok; clear tok; refine (is_c 110 false hr2 hb2 x2).mono ?_; rintro e w3 ⟨rfl, hr3, hb3⟩)
  have tok : True := trivial
  go_wp2_with (go_at_call 42; have _t := tok; clear tok; refine (is_c 105 false hr3 hb3 x3).mono ?_; rintro e w4 ⟨rfl, hr4, hb4⟩)
  have tok : True := trivial
  go_wp2_with (go_at_call 34; have _t := tok; clear tok; refine (wt_ok [48, 120] (by decide) hs hal hr4 hb4 k1).mono ?_; rintro e w5 ⟨rfl, hr5, hb5⟩)
  have tok : True := trivial
  go_wp2_with (go_at_call 79; have _t := tok; clear tok; refine (ru_ok true false M hs l1 hr5 hb5 HM.out k2).mono ?_; rintro e w6 ⟨rfl, hr6, hb6⟩)
  have tok : True := trivial
  go_wp2_with (go_at_call 34; have _t := tok; clear tok; refine (wt_ok [112] (by decide) hs l2 hr6 hb6 k3).mono ?_; rintro e w7 ⟨rfl, hr7, hb7⟩)
  have tok : True := trivial
  go_wp2_with (go_at_call 42; have _t := tok; clear tok; refine (is_c 45 true hr7 hb7 x4).mono ?_; rintro e w8 ⟨rfl, hr8, hb8⟩; obtain ⟨z0, z1, z2, z3, zf⟩ := hr8.cells; have zf1 := zf 1; clear zf)
  have hr9 := hr8.step b4
  have hb9 := hb8.setCell ⟨Q, 1, none⟩ (.int .i64 (b4 : Int)) (.inl (by simp))
  have tok : True := trivial
  go_wp2_with (go_at_call 79; have _t := tok; clear tok; refine (ru_ok false true E hs l4 hr9 hb9 HE.out k5).mono ?_; rintro e w10 ⟨rfl, hr10, hb10⟩; obtain ⟨y0, y1, y2, y3, yf⟩ := hr10.cells; clear yf)
  have tok : True := trivial
  go_wp2_with (go_at_call 80; have _t := tok; clear tok; refine (value_any true true M E DM.out DE.out _).mono ?_; rintro e wv ⟨⟨x, v, rfl, hx, hv1, hv2⟩, hbv⟩; have HV1 := Lib.hid hv1; have HV2 := Lib.hid hv2; clear hv1 hv2)
  exact bodyPost_ret (results_tmp2 rfl _ _ _) rfl ⟨hb10.trans (hbv.weak (by simp)), x, v, rfl, hx, .inl ⟨b5, HS.out, hr10.keep hbv (by simp), fun h => (HV1.out h).trans HI.out.piece.symm, fun ⟨y, hy, hR⟩ => (HV2.out y hy (hR.trans HI.out.piece)).1⟩⟩

end Go.Proofs.YtnghppgpdeghfaaGreatDoor
namespace Go.Proofs.YtnghppgpdeghfaaGreatDoor
open Go.RowKit Go.Proofs.YtnghppgpdeghfaaGreatDoor.Fl Go.Proofs.YtnghppgpdeghfaaGreatDoor.Pt Go.Proofs.YtnghppgpdeghfaaGreatDoor.Tx

set_option linter.unusedSimpArgs false in
set_option maxRecDepth 100000 in
set_option maxHeartbeats 4000000 in
theorem rf_mn1 (Q a : Nat) (s : ByteArray) (hs : s.size ≤ 65536) (W : World) (h : Rr W Q s a 0 0) (a1 : Nat) (ha1 : a1 = a + 1) (hal : a1 ≤ s.size) (x1 : decide (s.data.toList[a]? = some 45) = true) (x2 : decide (s.data.toList[a1]? = some 110) = true) (x3 : decide (s.data.toList[a1]? = some 105) = false) (b1 : Nat) (k1 : tk s.data.toList [48, 120] a1 = (false, b1)) (hsf : sf s.data.toList a = (false, b1)) : Calls Tryz.prog 63 #[.pointer (some ⟨Q, 0, none⟩)] W (FlP Q a s W) := by
  have hb0 := But.refl [Q] W
  have hr0 := h
  have e1 : IntKind.i64.wrap ((a : Int) + 1) = (a1 : Int) := by rw [IntKind.wrap_i64]; omega
  clear ha1
  clear h
  have HS := Lib.hid hsf
  clear hsf
  go_enter Tryz.func63, Tryz.ntmps63
  have tok : True := trivial
  go_wp2_with (go_at_call 42; have _t := tok; clear tok; refine (is_c 45 true hr0 hb0 x1).mono ?_; rintro e w1 ⟨rfl, hr1, hb1⟩; obtain ⟨z0, z1, z2, z3, zf⟩ := hr1.cells; have zf1 := zf 1; clear zf)
  have hr2 := hr1.step a1
  have hb2 := hb1.setCell ⟨Q, 1, none⟩ (.int .i64 (a1 : Int)) (.inl (by simp))
  have tok : True := trivial
  go_wp2_with (go_at_call 42; have _t := tok; clear tok; refine (is_c 110 true hr2 hb2 x2).mono ?_; rintro e w3 ⟨rfl, hr3, hb3⟩)
  have tok : True := trivial
  go_wp2_with (go_at_call 42; have _t := tok; clear tok; refine (is_c 105 false hr3 hb3 x3).mono ?_; rintro e w4 ⟨rfl, hr4, hb4⟩)
  have tok : True := trivial
  go_wp2_with (go_at_call 34; have _t := tok; clear tok; refine (wt_no [48, 120] (by decide) hs hal hr4 hb4 k1).mono ?_; rintro e w5 ⟨rfl, hr5, hb5⟩)
  have tok : True := trivial
  go_wp2_with (go_at_call 79; have _t := tok; clear tok; refine (ru_f true false hr5 hb5).mono ?_; rintro e w6 ⟨rfl, hr6, hb6⟩)
  have tok : True := trivial
  go_wp2_with (go_at_call 34; have _t := tok; clear tok; refine (wt_f [112] (by decide) hr6 hb6).mono ?_; rintro e w7 ⟨rfl, hr7, hb7⟩)
  have tok : True := trivial
  go_wp2_with (go_at_call 42; have _t := tok; clear tok; refine (is_f 45 hr7 hb7).mono ?_; rintro e w8 ⟨rfl, hr8, hb8⟩)
  have tok : True := trivial
  go_wp2_with (go_at_call 79; have _t := tok; clear tok; refine (ru_f false false hr8 hb8).mono ?_; rintro e w9 ⟨rfl, hr9, hb9⟩; obtain ⟨y0, y1, y2, y3, yf⟩ := hr9.cells; clear yf)
  exact bodyPost_ret (results_tmp2 rfl _ _ _) rfl ⟨hb9, _, _, rfl, (by decide), .inr ⟨b1, _, HS.out, hr9⟩⟩
set_option linter.unusedSimpArgs false in
set_option maxRecDepth 100000 in
set_option maxHeartbeats 4000000 in
theorem rf_mn2 (Q a : Nat) (s : ByteArray) (hs : s.size ≤ 65536) (W : World) (h : Rr W Q s a 0 0) (a1 : Nat) (ha1 : a1 = a + 1) (hal : a1 ≤ s.size) (x1 : decide (s.data.toList[a]? = some 45) = true) (x2 : decide (s.data.toList[a1]? = some 110) = true) (x3 : decide (s.data.toList[a1]? = some 105) = false) (b1 : Nat) (k1 : tk s.data.toList [48, 120] a1 = (true, b1)) (l1 : b1 ≤ s.size) (b2 : Nat) (k2 : rdg true false s.data.toList b1 = (false, b2)) (hsf : sf s.data.toList a = (false, b2)) : Calls Tryz.prog 63 #[.pointer (some ⟨Q, 0, none⟩)] W (FlP Q a s W) := by
  have hb0 := But.refl [Q] W
  have hr0 := h
  have e1 : IntKind.i64.wrap ((a : Int) + 1) = (a1 : Int) := by rw [IntKind.wrap_i64]; omega
  clear ha1
  clear h
  have HS := Lib.hid hsf
  clear hsf
  go_enter Tryz.func63, Tryz.ntmps63
  have tok : True := trivial
  go_wp2_with (go_at_call 42; have _t := tok; clear tok; refine (is_c 45 true hr0 hb0 x1).mono ?_; rintro e w1 ⟨rfl, hr1, hb1⟩; obtain ⟨z0, z1, z2, z3, zf⟩ := hr1.cells; have zf1 := zf 1; clear zf)
  have hr2 := hr1.step a1
  have hb2 := hb1.setCell ⟨Q, 1, none⟩ (.int .i64 (a1 : Int)) (.inl (by simp))
  have tok : True := trivial
  go_wp2_with (go_at_call 42; have _t := tok; clear tok; refine (is_c 110 true hr2 hb2 x2).mono ?_; rintro e w3 ⟨rfl, hr3, hb3⟩)
  have tok : True := trivial
  go_wp2_with (go_at_call 42; have _t := tok; clear tok; refine (is_c 105 false hr3 hb3 x3).mono ?_; rintro e w4 ⟨rfl, hr4, hb4⟩)
  have tok : True := trivial
  go_wp2_with (go_at_call 34; have _t := tok; clear tok; refine (wt_ok [48, 120] (by decide) hs hal hr4 hb4 k1).mono ?_; rintro e w5 ⟨rfl, hr5, hb5⟩)
  have tok : True := trivial
  go_wp2_with (go_at_call 79; have _t := tok; clear tok; refine (ru_no true false hs l1 hr5 hb5 k2).mono ?_; rintro e w6 ⟨rfl, hr6, hb6⟩)
  have tok : True := trivial
  go_wp2_with (go_at_call 34; have _t := tok; clear tok; refine (wt_f [112] (by decide) hr6 hb6).mono ?_; rintro e w7 ⟨rfl, hr7, hb7⟩)
  have tok : True := trivial
  go_wp2_with (go_at_call 42; have _t := tok; clear tok; refine (is_f 45 hr7 hb7).mono ?_; rintro e w8 ⟨rfl, hr8, hb8⟩)
  have tok : True := trivial
  go_wp2_with (go_at_call 79; have _t := tok; clear tok; refine (ru_f false false hr8 hb8).mono ?_; rintro e w9 ⟨rfl, hr9, hb9⟩; obtain ⟨y0, y1, y2, y3, yf⟩ := hr9.cells; clear yf)
  exact bodyPost_ret (results_tmp2 rfl _ _ _) rfl ⟨hb9, _, _, rfl, (by decide), .inr ⟨b2, _, HS.out, hr9⟩⟩
set_option linter.unusedSimpArgs false in
set_option maxRecDepth 100000 in
set_option maxHeartbeats 4000000 in
theorem rf_mn3 (Q a : Nat) (s : ByteArray) (hs : s.size ≤ 65536) (W : World) (h : Rr W Q s a 0 0) (a1 : Nat) (ha1 : a1 = a + 1) (hal : a1 ≤ s.size) (x1 : decide (s.data.toList[a]? = some 45) = true) (x2 : decide (s.data.toList[a1]? = some 110) = true) (x3 : decide (s.data.toList[a1]? = some 105) = false) (b1 : Nat) (k1 : tk s.data.toList [48, 120] a1 = (true, b1)) (l1 : b1 ≤ s.size) (b2 : Nat) (M : List UInt8) (hM : Is s.data.toList b1 M b2) (k2 : rdg true false s.data.toList b1 = (true, b2)) (l2 : b2 ≤ s.size) (b3 : Nat) (k3 : tk s.data.toList [112] b2 = (false, b3)) (hsf : sf s.data.toList a = (false, b3)) : Calls Tryz.prog 63 #[.pointer (some ⟨Q, 0, none⟩)] W (FlP Q a s W) := by
  have hb0 := But.refl [Q] W
  have hr0 := h
  have e1 : IntKind.i64.wrap ((a : Int) + 1) = (a1 : Int) := by rw [IntKind.wrap_i64]; omega
  clear ha1
  clear h
  have HM := Lib.hid hM
  clear hM
  have HS := Lib.hid hsf
  clear hsf
  go_enter Tryz.func63, Tryz.ntmps63
  have tok : True := trivial
  go_wp2_with (go_at_call 42; have _t := tok; clear tok; refine (is_c 45 true hr0 hb0 x1).mono ?_; rintro e w1 ⟨rfl, hr1, hb1⟩; obtain ⟨z0, z1, z2, z3, zf⟩ := hr1.cells; have zf1 := zf 1; clear zf)
  have hr2 := hr1.step a1
  have hb2 := hb1.setCell ⟨Q, 1, none⟩ (.int .i64 (a1 : Int)) (.inl (by simp))
  have tok : True := trivial
  go_wp2_with (go_at_call 42; have _t := tok; clear tok; refine (is_c 110 true hr2 hb2 x2).mono ?_; rintro e w3 ⟨rfl, hr3, hb3⟩)
  have tok : True := trivial
  go_wp2_with (go_at_call 42; have _t := tok; clear tok; refine (is_c 105 false hr3 hb3 x3).mono ?_; rintro e w4 ⟨rfl, hr4, hb4⟩)
  have tok : True := trivial
  go_wp2_with (go_at_call 34; have _t := tok; clear tok; refine (wt_ok [48, 120] (by decide) hs hal hr4 hb4 k1).mono ?_; rintro e w5 ⟨rfl, hr5, hb5⟩)
  have tok : True := trivial
  go_wp2_with (go_at_call 79; have _t := tok; clear tok; refine (ru_ok true false M hs l1 hr5 hb5 HM.out k2).mono ?_; rintro e w6 ⟨rfl, hr6, hb6⟩)
  have tok : True := trivial
  go_wp2_with (go_at_call 34; have _t := tok; clear tok; refine (wt_no [112] (by decide) hs l2 hr6 hb6 k3).mono ?_; rintro e w7 ⟨rfl, hr7, hb7⟩)
  have tok : True := trivial
  go_wp2_with (go_at_call 42; have _t := tok; clear tok; refine (is_f 45 hr7 hb7).mono ?_; rintro e w8 ⟨rfl, hr8, hb8⟩)
  have tok : True := trivial
  go_wp2_with (go_at_call 79; have _t := tok; clear tok; refine (ru_f false false hr8 hb8).mono ?_; rintro e w9 ⟨rfl, hr9, hb9⟩; obtain ⟨y0, y1, y2, y3, yf⟩ := hr9.cells; clear yf)
  exact bodyPost_ret (results_tmp2 rfl _ _ _) rfl ⟨hb9, _, _, rfl, (by decide), .inr ⟨b3, _, HS.out, hr9⟩⟩
set_option linter.unusedSimpArgs false in
set_option maxRecDepth 100000 in
set_option maxHeartbeats 4000000 in
theorem rf_mn4a (Q a : Nat) (s : ByteArray) (hs : s.size ≤ 65536) (W : World) (h : Rr W Q s a 0 0) (a1 : Nat) (ha1 : a1 = a + 1) (hal : a1 ≤ s.size) (x1 : decide (s.data.toList[a]? = some 45) = true) (x2 : decide (s.data.toList[a1]? = some 110) = true) (x3 : decide (s.data.toList[a1]? = some 105) = false) (b1 : Nat) (k1 : tk s.data.toList [48, 120] a1 = (true, b1)) (l1 : b1 ≤ s.size) (b2 : Nat) (M : List UInt8) (hM : Is s.data.toList b1 M b2) (k2 : rdg true false s.data.toList b1 = (true, b2)) (l2 : b2 ≤ s.size) (b3 : Nat) (k3 : tk s.data.toList [112] b2 = (true, b3)) (l3 : b3 ≤ s.size) (x4 : decide (s.data.toList[b3]? = some 45) = false) (b5 : Nat) (k5 : rdg false false s.data.toList b3 = (false, b5)) (hsf : sf s.data.toList a = (false, b5)) : Calls Tryz.prog 63 #[.pointer (some ⟨Q, 0, none⟩)] W (FlP Q a s W) := by
  have hb0 := But.refl [Q] W
  have hr0 := h
  have e1 : IntKind.i64.wrap ((a : Int) + 1) = (a1 : Int) := by rw [IntKind.wrap_i64]; omega
  clear ha1
  clear h
  have HM := Lib.hid hM
  clear hM
  have HS := Lib.hid hsf
  clear hsf
  go_enter Tryz.func63, Tryz.ntmps63
  have tok : True := trivial
  go_wp2_with (go_at_call 42; have _t := tok; clear tok; refine (is_c 45 true hr0 hb0 x1).mono ?_; rintro e w1 ⟨rfl, hr1, hb1⟩; obtain ⟨z0, z1, z2, z3, zf⟩ := hr1.cells; have zf1 := zf 1; clear zf)
  have hr2 := hr1.step a1
  have hb2 := hb1.setCell ⟨Q, 1, none⟩ (.int .i64 (a1 : Int)) (.inl (by simp))
  have tok : True := trivial
  go_wp2_with (go_at_call 42; have _t := tok; clear tok; refine (is_c 110 true hr2 hb2 x2).mono ?_; rintro e w3 ⟨rfl, hr3, hb3⟩)
  have tok : True := trivial
  go_wp2_with (go_at_call 42; have _t := tok; clear tok; refine (is_c 105 false hr3 hb3 x3).mono ?_; rintro e w4 ⟨rfl, hr4, hb4⟩)
  have tok : True := trivial
  go_wp2_with (go_at_call 34; have _t := tok; clear tok; refine (wt_ok [48, 120] (by decide) hs hal hr4 hb4 k1).mono ?_; rintro e w5 ⟨rfl, hr5, hb5⟩)
  have tok : True := trivial
  go_wp2_with (go_at_call 79; have _t := tok; clear tok; refine (ru_ok true false M hs l1 hr5 hb5 HM.out k2).mono ?_; rintro e w6 ⟨rfl, hr6, hb6⟩)
  have tok : True := trivial
  go_wp2_with (go_at_call 34; have _t := tok; clear tok; refine (wt_ok [112] (by decide) hs l2 hr6 hb6 k3).mono ?_; rintro e w7 ⟨rfl, hr7, hb7⟩)
  have tok : True := trivial
  go_wp2_with (go_at_call 42; have _t := tok; clear tok; refine (is_c 45 false hr7 hb7 x4).mono ?_; rintro e w8 ⟨rfl, hr8, hb8⟩)
  have tok : True := trivial
  go_wp2_with (go_at_call 79; have _t := tok; clear tok; refine (ru_no false false hs l3 hr8 hb8 k5).mono ?_; rintro e w9 ⟨rfl, hr9, hb9⟩; obtain ⟨y0, y1, y2, y3, yf⟩ := hr9.cells; clear yf)
  exact bodyPost_ret (results_tmp2 rfl _ _ _) rfl ⟨hb9, _, _, rfl, (by decide), .inr ⟨b5, _, HS.out, hr9⟩⟩
set_option linter.unusedSimpArgs false in
set_option maxRecDepth 100000 in
set_option maxHeartbeats 4000000 in
theorem rf_mn4b (Q a : Nat) (s : ByteArray) (hs : s.size ≤ 65536) (W : World) (h : Rr W Q s a 0 0) (a1 : Nat) (ha1 : a1 = a + 1) (hal : a1 ≤ s.size) (x1 : decide (s.data.toList[a]? = some 45) = true) (x2 : decide (s.data.toList[a1]? = some 110) = true) (x3 : decide (s.data.toList[a1]? = some 105) = false) (b1 : Nat) (k1 : tk s.data.toList [48, 120] a1 = (true, b1)) (l1 : b1 ≤ s.size) (b2 : Nat) (M : List UInt8) (hM : Is s.data.toList b1 M b2) (k2 : rdg true false s.data.toList b1 = (true, b2)) (l2 : b2 ≤ s.size) (b3 : Nat) (k3 : tk s.data.toList [112] b2 = (true, b3)) (_l3 : b3 ≤ s.size) (x4 : decide (s.data.toList[b3]? = some 45) = true) (b4 : Nat) (hb4 : b4 = b3 + 1) (l4 : b4 ≤ s.size) (b5 : Nat) (k5 : rdg false true s.data.toList b4 = (false, b5)) (hsf : sf s.data.toList a = (false, b5)) : Calls Tryz.prog 63 #[.pointer (some ⟨Q, 0, none⟩)] W (FlP Q a s W) := by
  have hb0 := But.refl [Q] W
  have hr0 := h
  have e1 : IntKind.i64.wrap ((a : Int) + 1) = (a1 : Int) := by rw [IntKind.wrap_i64]; omega
  clear ha1
  clear h
  have HM := Lib.hid hM
  clear hM
  have e4 : IntKind.i64.wrap ((b3 : Int) + 1) = (b4 : Int) := by rw [IntKind.wrap_i64]; omega
  clear hb4
  have HS := Lib.hid hsf
  clear hsf
  go_enter Tryz.func63, Tryz.ntmps63
  have tok : True := trivial
  go_wp2_with (go_at_call 42; have _t := tok; clear tok; refine (is_c 45 true hr0 hb0 x1).mono ?_; rintro e w1 ⟨rfl, hr1, hb1⟩; obtain ⟨z0, z1, z2, z3, zf⟩ := hr1.cells; have zf1 := zf 1; clear zf)
  have hr2 := hr1.step a1
  have hb2 := hb1.setCell ⟨Q, 1, none⟩ (.int .i64 (a1 : Int)) (.inl (by simp))
  have tok : True := trivial
  go_wp2_with (go_at_call 42; have _t := tok; clear tok; refine (is_c 110 true hr2 hb2 x2).mono ?_; rintro e w3 ⟨rfl, hr3, hb3⟩)
  have tok : True := trivial
  go_wp2_with (go_at_call 42; have _t := tok; clear tok; refine (is_c 105 false hr3 hb3 x3).mono ?_; rintro e w4 ⟨rfl, hr4, hb4⟩)
  have tok : True := trivial
  go_wp2_with (go_at_call 34; have _t := tok; clear tok; refine (wt_ok [48, 120] (by decide) hs hal hr4 hb4 k1).mono ?_; rintro e w5 ⟨rfl, hr5, hb5⟩)
  have tok : True := trivial
  go_wp2_with (go_at_call 79; have _t := tok; clear tok; refine (ru_ok true false M hs l1 hr5 hb5 HM.out k2).mono ?_; rintro e w6 ⟨rfl, hr6, hb6⟩)
  have tok : True := trivial
  go_wp2_with (go_at_call 34; have _t := tok; clear tok; refine (wt_ok [112] (by decide) hs l2 hr6 hb6 k3).mono ?_; rintro e w7 ⟨rfl, hr7, hb7⟩)
  have tok : True := trivial
  go_wp2_with (go_at_call 42; have _t := tok; clear tok; refine (is_c 45 true hr7 hb7 x4).mono ?_; rintro e w8 ⟨rfl, hr8, hb8⟩; obtain ⟨z0, z1, z2, z3, zf⟩ := hr8.cells; have zf1 := zf 1; clear zf)
  have hr9 := hr8.step b4
  have hb9 := hb8.setCell ⟨Q, 1, none⟩ (.int .i64 (b4 : Int)) (.inl (by simp))
  have tok : True := trivial
  go_wp2_with (go_at_call 79; have _t := tok; clear tok; refine (ru_no false true hs l4 hr9 hb9 k5).mono ?_; rintro e w10 ⟨rfl, hr10, hb10⟩; obtain ⟨y0, y1, y2, y3, yf⟩ := hr10.cells; clear yf)
  exact bodyPost_ret (results_tmp2 rfl _ _ _) rfl ⟨hb10, _, _, rfl, (by decide), .inr ⟨b5, _, HS.out, hr10⟩⟩
set_option linter.unusedSimpArgs false in
set_option maxRecDepth 100000 in
set_option maxHeartbeats 4000000 in
theorem rf_mn5a (Q a : Nat) (s : ByteArray) (hs : s.size ≤ 65536) (W : World) (h : Rr W Q s a 0 0) (a1 : Nat) (ha1 : a1 = a + 1) (hal : a1 ≤ s.size) (x1 : decide (s.data.toList[a]? = some 45) = true) (x2 : decide (s.data.toList[a1]? = some 110) = true) (x3 : decide (s.data.toList[a1]? = some 105) = false) (b1 : Nat) (k1 : tk s.data.toList [48, 120] a1 = (true, b1)) (l1 : b1 ≤ s.size) (b2 : Nat) (M : List UInt8) (hM : Is s.data.toList b1 M b2) (k2 : rdg true false s.data.toList b1 = (true, b2)) (l2 : b2 ≤ s.size) (b3 : Nat) (k3 : tk s.data.toList [112] b2 = (true, b3)) (l3 : b3 ≤ s.size) (x4 : decide (s.data.toList[b3]? = some 45) = false) (b5 : Nat) (E : List UInt8) (hE : Is s.data.toList b3 E b5) (k5 : rdg false false s.data.toList b3 = (true, b5)) (dM : ∀ c ∈ M, isH c = true) (dE : ∀ c ∈ E, isD c = true) (hsf : sf s.data.toList a = (true, b5)) (hI : Is s.data.toList a (tok true M (pwT false E)) b5) : Calls Tryz.prog 63 #[.pointer (some ⟨Q, 0, none⟩)] W (FlP Q a s W) := by
  have hb0 := But.refl [Q] W
  have hr0 := h
  have e1 : IntKind.i64.wrap ((a : Int) + 1) = (a1 : Int) := by rw [IntKind.wrap_i64]; omega
  clear ha1
  clear h
  have HM := Lib.hid hM
  clear hM
  have HS := Lib.hid hsf
  have HI := Lib.hid hI
  have HE := Lib.hid hE
  have DM := Lib.hid dM
  have DE := Lib.hid dE
  clear hsf hI hE dM dE
  go_enter Tryz.func63, Tryz.ntmps63
  have tok : True := trivial
  go_wp2_with (go_at_call 42; have _t := tok; clear tok; refine (is_c 45 true hr0 hb0 x1).mono ?_; rintro e w1 ⟨rfl, hr1, hb1⟩; obtain ⟨z0, z1, z2, z3, zf⟩ := hr1.cells; have zf1 := zf 1; clear zf)
  have hr2 := hr1.step a1
  have hb2 := hb1.setCell ⟨Q, 1, none⟩ (.int .i64 (a1 : Int)) (.inl (by simp))
  have tok : True := trivial
  go_wp2_with (go_at_call 42; have _t := tok; clear tok; refine (is_c 110 true hr2 hb2 x2).mono ?_; rintro e w3 ⟨rfl, hr3, hb3⟩)
  have tok : True := trivial
  go_wp2_with (go_at_call 42; have _t := tok; clear tok; refine (is_c 105 false hr3 hb3 x3).mono ?_; rintro e w4 ⟨rfl, hr4, hb4⟩)
  have tok : True := trivial
  go_wp2_with (go_at_call 34; have _t := tok; clear tok; refine (wt_ok [48, 120] (by decide) hs hal hr4 hb4 k1).mono ?_; rintro e w5 ⟨rfl, hr5, hb5⟩)
  have tok : True := trivial
  go_wp2_with (go_at_call 79; have _t := tok; clear tok; refine (ru_ok true false M hs l1 hr5 hb5 HM.out k2).mono ?_; rintro e w6 ⟨rfl, hr6, hb6⟩)
  have tok : True := trivial
  go_wp2_with (go_at_call 34; have _t := tok; clear tok; refine (wt_ok [112] (by decide) hs l2 hr6 hb6 k3).mono ?_; rintro e w7 ⟨rfl, hr7, hb7⟩)
  have tok : True := trivial
  go_wp2_with (go_at_call 42; have _t := tok; clear tok; refine (is_c 45 false hr7 hb7 x4).mono ?_; rintro e w8 ⟨rfl, hr8, hb8⟩)
  have tok : True := trivial
  go_wp2_with (go_at_call 79; have _t := tok; clear tok; refine (ru_ok false false E hs l3 hr8 hb8 HE.out k5).mono ?_; rintro e w9 ⟨rfl, hr9, hb9⟩; obtain ⟨y0, y1, y2, y3, yf⟩ := hr9.cells; clear yf)
  have tok : True := trivial
  go_wp2_with (go_at_call 80; have _t := tok; clear tok; refine (value_any true false M E DM.out DE.out _).mono ?_; rintro e wv ⟨⟨x, v, rfl, hx, hv1, hv2⟩, hbv⟩; have HV1 := Lib.hid hv1; have HV2 := Lib.hid hv2; clear hv1 hv2)
  exact bodyPost_ret (results_tmp2 rfl _ _ _) rfl ⟨hb9.trans (hbv.weak (by simp)), x, v, rfl, hx, .inl ⟨b5, HS.out, hr9.keep hbv (by simp), fun h => (HV1.out h).trans HI.out.piece.symm, fun ⟨y, hy, hR⟩ => (HV2.out y hy (hR.trans HI.out.piece)).1⟩⟩
set_option linter.unusedSimpArgs false in
set_option maxRecDepth 100000 in
set_option maxHeartbeats 4000000 in
theorem rf_mn5b (Q a : Nat) (s : ByteArray) (hs : s.size ≤ 65536) (W : World) (h : Rr W Q s a 0 0) (a1 : Nat) (ha1 : a1 = a + 1) (hal : a1 ≤ s.size) (x1 : decide (s.data.toList[a]? = some 45) = true) (x2 : decide (s.data.toList[a1]? = some 110) = true) (x3 : decide (s.data.toList[a1]? = some 105) = false) (b1 : Nat) (k1 : tk s.data.toList [48, 120] a1 = (true, b1)) (l1 : b1 ≤ s.size) (b2 : Nat) (M : List UInt8) (hM : Is s.data.toList b1 M b2) (k2 : rdg true false s.data.toList b1 = (true, b2)) (l2 : b2 ≤ s.size) (b3 : Nat) (k3 : tk s.data.toList [112] b2 = (true, b3)) (_l3 : b3 ≤ s.size) (x4 : decide (s.data.toList[b3]? = some 45) = true) (b4 : Nat) (hb4 : b4 = b3 + 1) (l4 : b4 ≤ s.size) (b5 : Nat) (E : List UInt8) (hE : Is s.data.toList b4 E b5) (k5 : rdg false true s.data.toList b4 = (true, b5)) (dM : ∀ c ∈ M, isH c = true) (dE : ∀ c ∈ E, isD c = true) (hsf : sf s.data.toList a = (true, b5)) (hI : Is s.data.toList a (tok true M (pwT true E)) b5) : Calls Tryz.prog 63 #[.pointer (some ⟨Q, 0, none⟩)] W (FlP Q a s W) := by
  have hb0 := But.refl [Q] W
  have hr0 := h
  have e1 : IntKind.i64.wrap ((a : Int) + 1) = (a1 : Int) := by rw [IntKind.wrap_i64]; omega
  clear ha1
  clear h
  have HM := Lib.hid hM
  clear hM
  have e4 : IntKind.i64.wrap ((b3 : Int) + 1) = (b4 : Int) := by rw [IntKind.wrap_i64]; omega
  clear hb4
  have HS := Lib.hid hsf
  have HI := Lib.hid hI
  have HE := Lib.hid hE
  have DM := Lib.hid dM
  have DE := Lib.hid dE
  clear hsf hI hE dM dE
  go_enter Tryz.func63, Tryz.ntmps63
  have tok : True := trivial
  go_wp2_with (go_at_call 42; have _t := tok; clear tok; refine (is_c 45 true hr0 hb0 x1).mono ?_; rintro e w1 ⟨rfl, hr1, hb1⟩; obtain ⟨z0, z1, z2, z3, zf⟩ := hr1.cells; have zf1 := zf 1; clear zf)
  have hr2 := hr1.step a1
  have hb2 := hb1.setCell ⟨Q, 1, none⟩ (.int .i64 (a1 : Int)) (.inl (by simp))
  have tok : True := trivial
  go_wp2_with (go_at_call 42; have _t := tok; clear tok; refine (is_c 110 true hr2 hb2 x2).mono ?_; rintro e w3 ⟨rfl, hr3, hb3⟩)
  have tok : True := trivial
  go_wp2_with (go_at_call 42; have _t := tok; clear tok; refine (is_c 105 false hr3 hb3 x3).mono ?_; rintro e w4 ⟨rfl, hr4, hb4⟩)
  have tok : True := trivial
  go_wp2_with (go_at_call 34; have _t := tok; clear tok; refine (wt_ok [48, 120] (by decide) hs hal hr4 hb4 k1).mono ?_; rintro e w5 ⟨rfl, hr5, hb5⟩)
  have tok : True := trivial
  go_wp2_with (go_at_call 79; have _t := tok; clear tok; refine (ru_ok true false M hs l1 hr5 hb5 HM.out k2).mono ?_; rintro e w6 ⟨rfl, hr6, hb6⟩)
  have tok : True := trivial
  go_wp2_with (go_at_call 34; have _t := tok; clear tok; refine (wt_ok [112] (by decide) hs l2 hr6 hb6 k3).mono ?_; rintro e w7 ⟨rfl, hr7, hb7⟩)
  have tok : True := trivial
  go_wp2_with (go_at_call 42; have _t := tok; clear tok; refine (is_c 45 true hr7 hb7 x4).mono ?_; rintro e w8 ⟨rfl, hr8, hb8⟩; obtain ⟨z0, z1, z2, z3, zf⟩ := hr8.cells; have zf1 := zf 1; clear zf)
  have hr9 := hr8.step b4
  have hb9 := hb8.setCell ⟨Q, 1, none⟩ (.int .i64 (b4 : Int)) (.inl (by simp))
  have tok : True := trivial
  go_wp2_with (go_at_call 79; have _t := tok; clear tok; refine (ru_ok false true E hs l4 hr9 hb9 HE.out k5).mono ?_; rintro e w10 ⟨rfl, hr10, hb10⟩; obtain ⟨y0, y1, y2, y3, yf⟩ := hr10.cells; clear yf)
  have tok : True := trivial
  go_wp2_with (go_at_call 80; have _t := tok; clear tok; refine (value_any true true M E DM.out DE.out _).mono ?_; rintro e wv ⟨⟨x, v, rfl, hx, hv1, hv2⟩, hbv⟩; have HV1 := Lib.hid hv1; have HV2 := Lib.hid hv2; clear hv1 hv2)
  exact bodyPost_ret (results_tmp2 rfl _ _ _) rfl ⟨hb10.trans (hbv.weak (by simp)), x, v, rfl, hx, .inl ⟨b5, HS.out, hr10.keep hbv (by simp), fun h => (HV1.out h).trans HI.out.piece.symm, fun ⟨y, hy, hR⟩ => (HV2.out y hy (hR.trans HI.out.piece)).1⟩⟩

end Go.Proofs.YtnghppgpdeghfaaGreatDoor
