/- The reference's part. -/
import Derived.Test.YtnghppgpdeghfaaGreatDoorB14
namespace Go.Proofs.YtnghppgpdeghfaaGreatDoor
open Go.RowKit Go.Proofs.YtnghppgpdeghfaaGreatDoor.Fl Go.Proofs.YtnghppgpdeghfaaGreatDoor.Pt Go.Proofs.YtnghppgpdeghfaaGreatDoor.Tx

section
variable {Q a b p : Nat} {s : ByteArray} {w0 w : World}
theorem fl_ok (hs : s.size ≤ 65536) (ha : a ≤ s.size) (h : Rr w Q s a 0 0) (hb : But [Q] w0 w) (hk : sf s.data.toList a = (true, b)) : Calls Tryz.prog 63 #[.pointer (some ⟨Q, 0, none⟩)] w fun r w' => ∃ x v, r = .returned (.tuple #[.float .f64 x, .bool v]) ∧ x < 18446744073709551616 ∧ (v = true → fl x = (s.data.toList.drop a).take (b - a)) ∧ (Rt ((s.data.toList.drop a).take (b - a)) → v = true) ∧ Rr w' Q s b 0 0 ∧ But [Q] w0 w' := by
  refine (rf_any Q a s hs ha w h).mono ?_
  rintro r w' ⟨h1, x, v, h2, h3, ⟨c, h4, h5, h6, h7⟩ | ⟨c, d, h4, h5⟩⟩
  · rw [hk] at h4; cases h4; exact ⟨x, v, h2, h3, h6, h7, h5, hb.trans h1⟩
  · rw [hk] at h4; cases h4
theorem fl_no (hs : s.size ≤ 65536) (ha : a ≤ s.size) (h : Rr w Q s a 0 0) (hb : But [Q] w0 w) (hk : sf s.data.toList a = (false, b)) : Calls Tryz.prog 63 #[.pointer (some ⟨Q, 0, none⟩)] w fun r w' => ∃ x v, r = .returned (.tuple #[.float .f64 x, .bool v]) ∧ x < 18446744073709551616 ∧ (∃ d, Rr w' Q s d 12 b) ∧ But [Q] w0 w' := by
  refine (rf_any Q a s hs ha w h).mono ?_
  rintro r w' ⟨h1, x, v, h2, h3, ⟨c, h4, h5, h6, h7⟩ | ⟨c, d, h4, h5⟩⟩
  · rw [hk] at h4; cases h4
  · rw [hk] at h4; cases h4; exact ⟨x, v, h2, h3, ⟨d, h5⟩, hb.trans h1⟩
theorem fa_on (e' p' : Nat) (h : Rr w Q s a 0 0) (hb : But [Q] w0 w) : Calls Tryz.prog 43 #[.pointer (some ⟨Q, 0, none⟩), .int .i64 (e' : Int), .int .i64 (p' : Int)] w fun e w' => e = .returned (.tuple #[]) ∧ Rr w' Q s a e' p' ∧ But [Q] w0 w' :=
  (rfail_on Q a 0 e' p' s w h).mono fun _ _ ⟨h1, h2, h3⟩ => ⟨h1, h2, hb.trans h3⟩
theorem fa_f (e' p' : Nat) (h : Rr w Q s a 12 p) (hb : But [Q] w0 w) : Calls Tryz.prog 43 #[.pointer (some ⟨Q, 0, none⟩), .int .i64 (e' : Int), .int .i64 (p' : Int)] w fun e w' => e = .returned (.tuple #[]) ∧ Rr w' Q s a 12 p ∧ But [Q] w0 w' :=
  (rfail_off Q a 12 p e' p' rfl s w h).mono fun _ _ ⟨h1, h2⟩ => ⟨h1, by rw [h2]; exact h, by rw [h2]; exact hb⟩
end
/-- What part answers. -/
def PtP (Q a : Nat) (e0 : UInt8) (s : ByteArray) (W : World) (r : Ending) (w' : World) : Prop := But [Q] W w' ∧ ∃ x, r = .returned (.float .f64 x) ∧ x < 18446744073709551616 ∧
  ((∃ c, fo e0 s.data.toList a = (true, c) ∧ Rr w' Q s c 0 0 ∧ Is s.data.toList a (fl x ++ [e0]) c) ∨ (∃ c d, fo e0 s.data.toList a = (false, c) ∧ Rr w' Q s d 12 c))
set_option linter.unusedSimpArgs false in
set_option maxRecDepth 100000 in
set_option maxHeartbeats 4000000 in
theorem pt_1 (Q a : Nat) (e0 : UInt8) (s : ByteArray) (hs : s.size ≤ 65536) (ha : a ≤ s.size) (W : World) (h : Rr W Q s a 0 0) (b : Nat) (k : sf s.data.toList a = (false, b)) (hf : fo e0 s.data.toList a = (false, b)) : Calls Tryz.prog 49 #[.pointer (some ⟨Q, 0, none⟩), .int .u8 (e0.toNat : Int)] W (PtP Q a e0 s W) := by
  obtain ⟨c0, c1, c2, c3, cf⟩ := h.cells
  have hb0 := But.refl [Q] W
  have hr0 := h
  clear h cf
  have HS := Lib.hid hf
  clear hf
  go_enter Tryz.func49, Tryz.ntmps49
  have tok : True := trivial
  go_wp2_with (go_at_call 63; have _t := tok; clear tok; refine (fl_no hs ha hr0 hb0 k).mono ?_; rintro e w1 ⟨x, v, rfl, hx, ⟨d, hr1⟩, hb1⟩)
  cases v
  · have tok : True := trivial
    go_wp2_with (go_at_call 42; have _t := tok; clear tok; refine (is_f e0 hr1 hb1).mono ?_; rintro e w2 ⟨rfl, hr2, hb2⟩; obtain ⟨z0, z1, z2, z3, zf⟩ := hr2.cells; clear zf)
    have tok : True := trivial
    go_wp2_with (go_at_call 43; have _t := tok; clear tok; refine (fa_f _ _ hr2 hb2).mono ?_; rintro e w3 ⟨rfl, hr3, hb3⟩; obtain ⟨y0, y1, y2, y3, yf⟩ := hr3.cells; clear yf)
    have tok : True := trivial
    go_wp2_with (go_at_call 43; have _t := tok; clear tok; refine (fa_f _ _ hr3 hb3).mono ?_; rintro e w4 ⟨rfl, hr4, hb4⟩; obtain ⟨x0, x1, x2, x3, xf⟩ := hr4.cells; clear xf)
    go_ret
    exact ⟨hb4, x, rfl, hx, .inr ⟨b, d, HS.out, hr4⟩⟩
  · have tok : True := trivial
    go_wp2_with (go_at_call 42; have _t := tok; clear tok; refine (is_f e0 hr1 hb1).mono ?_; rintro e w2 ⟨rfl, hr2, hb2⟩; obtain ⟨z0, z1, z2, z3, zf⟩ := hr2.cells; clear zf)
    have tok : True := trivial
    go_wp2_with (go_at_call 43; have _t := tok; clear tok; refine (fa_f _ _ hr2 hb2).mono ?_; rintro e w3 ⟨rfl, hr3, hb3⟩; obtain ⟨y0, y1, y2, y3, yf⟩ := hr3.cells; clear yf)
    go_ret
    exact ⟨hb3, x, rfl, hx, .inr ⟨b, d, HS.out, hr3⟩⟩
set_option linter.unusedSimpArgs false in
set_option maxRecDepth 100000 in
set_option maxHeartbeats 4000000 in
theorem pt_2 (Q a : Nat) (e0 : UInt8) (s : ByteArray) (hs : s.size ≤ 65536) (ha : a ≤ s.size) (W : World) (h : Rr W Q s a 0 0) (b : Nat) (k : sf s.data.toList a = (true, b)) (x1 : decide (s.data.toList[b]? = some e0) = false) (hf : fo e0 s.data.toList a = (false, b)) : Calls Tryz.prog 49 #[.pointer (some ⟨Q, 0, none⟩), .int .u8 (e0.toNat : Int)] W (PtP Q a e0 s W) := by
  obtain ⟨c0, c1, c2, c3, cf⟩ := h.cells
  have hb0 := But.refl [Q] W
  have hr0 := h
  clear h cf
  have HS := Lib.hid hf
  clear hf
  go_enter Tryz.func49, Tryz.ntmps49
  have tok : True := trivial
  go_wp2_with (go_at_call 63; have _t := tok; clear tok; refine (fl_ok hs ha hr0 hb0 k).mono ?_; rintro e w1 ⟨x, v, rfl, hx, _hv1, _hv2, hr1, hb1⟩)
  clear _hv1 _hv2
  cases v
  · have tok : True := trivial
    go_wp2_with (go_at_call 42; have _t := tok; clear tok; refine (is_c e0 false hr1 hb1 x1).mono ?_; rintro e w2 ⟨rfl, hr2, hb2⟩; obtain ⟨z0, z1, z2, z3, zf⟩ := hr2.cells; clear zf)
    have tok : True := trivial
    go_wp2_with (go_at_call 43; have _t := tok; clear tok; refine (fa_on 12 b hr2 hb2).mono ?_; rintro e w3 ⟨rfl, hr3, hb3⟩; obtain ⟨y0, y1, y2, y3, yf⟩ := hr3.cells; clear yf)
    have tok : True := trivial
    go_wp2_with (go_at_call 43; have _t := tok; clear tok; refine (fa_f _ _ hr3 hb3).mono ?_; rintro e w4 ⟨rfl, hr4, hb4⟩; obtain ⟨x0, x1, x2, x3, xf⟩ := hr4.cells; clear xf)
    go_ret
    exact ⟨hb4, x, rfl, hx, .inr ⟨b, b, HS.out, hr4⟩⟩
  · have tok : True := trivial
    go_wp2_with (go_at_call 42; have _t := tok; clear tok; refine (is_c e0 false hr1 hb1 x1).mono ?_; rintro e w2 ⟨rfl, hr2, hb2⟩; obtain ⟨z0, z1, z2, z3, zf⟩ := hr2.cells; clear zf)
    have tok : True := trivial
    go_wp2_with (go_at_call 43; have _t := tok; clear tok; refine (fa_on 12 b hr2 hb2).mono ?_; rintro e w3 ⟨rfl, hr3, hb3⟩; obtain ⟨y0, y1, y2, y3, yf⟩ := hr3.cells; clear yf)
    go_ret
    exact ⟨hb3, x, rfl, hx, .inr ⟨b, b, HS.out, hr3⟩⟩
set_option linter.unusedSimpArgs false in
set_option maxRecDepth 100000 in
set_option maxHeartbeats 4000000 in
theorem pt_3 (Q a : Nat) (e0 : UInt8) (s : ByteArray) (hs : s.size ≤ 65536) (ha : a ≤ s.size) (W : World) (h : Rr W Q s a 0 0) (b : Nat) (k : sf s.data.toList a = (true, b)) (x1 : decide (s.data.toList[b]? = some e0) = true) (hR : ¬ Rt ((s.data.toList.drop a).take (b - a))) (hf : fo e0 s.data.toList a = (false, a)) : Calls Tryz.prog 49 #[.pointer (some ⟨Q, 0, none⟩), .int .u8 (e0.toNat : Int)] W (PtP Q a e0 s W) := by
  obtain ⟨c0, c1, c2, c3, cf⟩ := h.cells
  have hb0 := But.refl [Q] W
  have hr0 := h
  clear h cf
  have HS := Lib.hid hf
  clear hf
  go_enter Tryz.func49, Tryz.ntmps49
  have tok : True := trivial
  go_wp2_with (go_at_call 63; have _t := tok; clear tok; refine (fl_ok hs ha hr0 hb0 k).mono ?_; rintro e w1 ⟨x, v, rfl, hx, hv1, _hv2, hr1, hb1⟩)
  obtain rfl : v = false := by
    cases v
    · rfl
    · exact absurd ⟨x, hx, hv1 rfl⟩ hR
  clear hv1 _hv2 hR
  have tok : True := trivial
  go_wp2_with (go_at_call 42; have _t := tok; clear tok; refine (is_c e0 true hr1 hb1 x1).mono ?_; rintro e w2 ⟨rfl, hr2, hb2⟩; obtain ⟨z0, z1, z2, z3, zf⟩ := hr2.cells; clear zf)
  have tok : True := trivial
  go_wp2_with (go_at_call 43; have _t := tok; clear tok; refine (fa_on 12 a hr2 hb2).mono ?_; rintro e w3 ⟨rfl, hr3, hb3⟩; obtain ⟨y0, y1, y2, y3, yf⟩ := hr3.cells; clear yf)
  go_ret
  exact ⟨hb3, x, rfl, hx, .inr ⟨a, b, HS.out, hr3⟩⟩
set_option linter.unusedSimpArgs false in
set_option maxRecDepth 100000 in
set_option maxHeartbeats 4000000 in
theorem pt_4 (Q a : Nat) (e0 : UInt8) (s : ByteArray) (hs : s.size ≤ 65536) (ha : a ≤ s.size) (W : World) (h : Rr W Q s a 0 0) (b b1 : Nat) (hb1e : b1 = b + 1) (hbs : b1 ≤ s.size) (k : sf s.data.toList a = (true, b)) (x1 : decide (s.data.toList[b]? = some e0) = true) (hR : Rt ((s.data.toList.drop a).take (b - a))) (hE : Is s.data.toList b [e0] b1) (hf : fo e0 s.data.toList a = (true, b1)) : Calls Tryz.prog 49 #[.pointer (some ⟨Q, 0, none⟩), .int .u8 (e0.toNat : Int)] W (PtP Q a e0 s W) := by
  obtain ⟨c0, c1, c2, c3, cf⟩ := h.cells
  have hb0 := But.refl [Q] W
  have hr0 := h
  clear h cf
  have HS := Lib.hid hf
  have HE := Lib.hid hE
  have HR := Lib.hid hR
  have e1 : IntKind.i64.wrap ((b : Int) + 1) = (b1 : Int) := by rw [IntKind.wrap_i64]; omega
  clear hf hE hb1e hR
  go_enter Tryz.func49, Tryz.ntmps49
  have tok : True := trivial
  go_wp2_with (go_at_call 63; have _t := tok; clear tok; refine (fl_ok hs ha hr0 hb0 k).mono ?_; rintro e w1 ⟨x, v, rfl, hx, hv1, hv2, hr1, hb1⟩)
  obtain rfl : v = true := hv2 HR.out
  have HV := Lib.hid (hv1 rfl)
  clear hv1 hv2
  have tok : True := trivial
  go_wp2_with (go_at_call 42; have _t := tok; clear tok; refine (is_c e0 true hr1 hb1 x1).mono ?_; rintro e w2 ⟨rfl, hr2, hb2⟩; obtain ⟨z0, z1, z2, z3, zf⟩ := hr2.cells; have zf1 := zf 1; clear zf)
  go_ret
  have hI : Is s.data.toList a (fl x) b := by rw [HV.out]; exact sf_piece k
  exact ⟨hb2.setCell _ _ (.inl (by simp)), x, rfl, hx, .inl ⟨b1, HS.out, hr2.step b1, hI.trans HE.out⟩⟩
set_option linter.unusedSimpArgs false in
set_option maxRecDepth 100000 in
set_option maxHeartbeats 4000000 in
theorem pt_off (Q a p : Nat) (e0 : UInt8) (s : ByteArray) (W : World) (h : Rr W Q s a 12 p) : Calls Tryz.prog 49 #[.pointer (some ⟨Q, 0, none⟩), .int .u8 (e0.toNat : Int)] W fun r w' => r = .returned (.float .f64 0) ∧ Rr w' Q s a 12 p ∧ But [Q] W w' := by
  obtain ⟨c0, c1, c2, c3, cf⟩ := h.cells
  have hb0 := But.refl [Q] W
  have hr0 := h
  clear h cf
  go_enter Tryz.func49, Tryz.ntmps49
  have tok : True := trivial
  go_wp2_with (go_at_call 63; have _t := tok; clear tok; refine (rf_off Q a p s _ hr0).mono ?_; rintro e w1 ⟨rfl, hr1, hbb⟩; have hb1 := hb0.trans hbb)
  have tok : True := trivial
  go_wp2_with (go_at_call 42; have _t := tok; clear tok; refine (is_f e0 hr1 hb1).mono ?_; rintro e w2 ⟨rfl, hr2, hb2⟩; obtain ⟨z0, z1, z2, z3, zf⟩ := hr2.cells; clear zf)
  have tok : True := trivial
  go_wp2_with (go_at_call 43; have _t := tok; clear tok; refine (fa_f _ _ hr2 hb2).mono ?_; rintro e w3 ⟨rfl, hr3, hb3⟩; obtain ⟨y0, y1, y2, y3, yf⟩ := hr3.cells; clear yf)
  have tok : True := trivial
  go_wp2_with (go_at_call 43; have _t := tok; clear tok; refine (fa_f _ _ hr3 hb3).mono ?_; rintro e w4 ⟨rfl, hr4, hb4⟩; obtain ⟨x0, x1, x2, x3, xf⟩ := hr4.cells; clear xf)
  go_ret
  exact ⟨rfl, hr4, hb4⟩

theorem pt_any (Q a : Nat) (e0 : UInt8) (s : ByteArray) (hs : s.size ≤ 65536) (ha : a ≤ s.size) (W : World) (h : Rr W Q s a 0 0) : Calls Tryz.prog 49 #[.pointer (some ⟨Q, 0, none⟩), .int .u8 (e0.toNat : Int)] W (PtP Q a e0 s W) := by
  rcases pair (x := sf s.data.toList a) with ⟨b, k⟩ | ⟨b, k⟩
  · by_cases x1 : s.data.toList[b]? = some e0
    · have ht : tk s.data.toList [e0] b = (true, b + 1) := by rw [tk, if_pos x1]; rfl
      by_cases hR : Rt ((s.data.toList.drop a).take (b - a))
      · exact pt_4 Q a e0 s hs ha W h b (b + 1) rfl (at_lt x1) k (decide_eq_true x1) hR (Is.one x1) (by unfold fo bd; rw [k]; simp [ht, hR])
      · exact pt_3 Q a e0 s hs ha W h b k (decide_eq_true x1) hR (by unfold fo bd; rw [k]; simp [ht, hR])
    · have ht : tk s.data.toList [e0] b = (false, b) := by rw [tk, if_neg x1]
      exact pt_2 Q a e0 s hs ha W h b k (decide_eq_false x1) (by unfold fo bd; rw [k]; simp [ht])
  · exact pt_1 Q a e0 s hs ha W h b k (by unfold fo bd; rw [k]; simp)
end Go.Proofs.YtnghppgpdeghfaaGreatDoor
