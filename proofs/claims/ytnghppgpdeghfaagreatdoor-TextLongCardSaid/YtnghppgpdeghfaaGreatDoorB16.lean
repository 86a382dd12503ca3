/- The reference's number, DocRead. -/
import Derived.Test.YtnghppgpdeghfaaGreatDoorB15
namespace Go.Proofs.YtnghppgpdeghfaaGreatDoor
open Go.RowKit Go.Proofs.YtnghppgpdeghfaaGreatDoor.Fl Go.Proofs.YtnghppgpdeghfaaGreatDoor.Pt Go.Proofs.YtnghppgpdeghfaaGreatDoor.Tx

section
variable {Q a b p : Nat} {s : ByteArray} {w0 w : World}
theorem pt_ok (e0 : UInt8) (hs : s.size ≤ 65536) (ha : a ≤ s.size) (h : Rr w Q s a 0 0) (hb : But [Q] w0 w) (hk : fo e0 s.data.toList a = (true, b)) : Calls Tryz.prog 49 #[.pointer (some ⟨Q, 0, none⟩), .int .u8 (e0.toNat : Int)] w fun r w' => ∃ x, r = .returned (.float .f64 x) ∧ x < 18446744073709551616 ∧ Is s.data.toList a (fl x ++ [e0]) b ∧ Rr w' Q s b 0 0 ∧ But [Q] w0 w' := by
  refine (pt_any Q a e0 s hs ha w h).mono ?_
  rintro r w' ⟨h1, x, h2, h3, ⟨c, h4, h5, h6⟩ | ⟨c, d, h4, h5⟩⟩
  · rw [hk] at h4; cases h4; exact ⟨x, h2, h3, h6, h5, hb.trans h1⟩
  · rw [hk] at h4; cases h4
theorem pt_no (e0 : UInt8) (hs : s.size ≤ 65536) (ha : a ≤ s.size) (h : Rr w Q s a 0 0) (hb : But [Q] w0 w) (hk : fo e0 s.data.toList a = (false, b)) : Calls Tryz.prog 49 #[.pointer (some ⟨Q, 0, none⟩), .int .u8 (e0.toNat : Int)] w fun r w' => ∃ x, r = .returned (.float .f64 x) ∧ x < 18446744073709551616 ∧ (∃ d, Rr w' Q s d 12 b) ∧ But [Q] w0 w' := by
  refine (pt_any Q a e0 s hs ha w h).mono ?_
  rintro r w' ⟨h1, x, h2, h3, ⟨c, h4, h5, h6⟩ | ⟨c, d, h4, h5⟩⟩
  · rw [hk] at h4; cases h4
  · rw [hk] at h4; cases h4; exact ⟨x, h2, h3, ⟨d, h5⟩, hb.trans h1⟩
theorem pt_o (e0 : UInt8) (h : Rr w Q s a 12 p) (hb : But [Q] w0 w) : Calls Tryz.prog 49 #[.pointer (some ⟨Q, 0, none⟩), .int .u8 (e0.toNat : Int)] w fun r w' => r = .returned (.float .f64 0) ∧ Rr w' Q s a 12 p ∧ But [Q] w0 w' :=
  (pt_off Q a p e0 s w h).mono fun _ _ ⟨h1, h2, h3⟩ => ⟨h1, h2, hb.trans h3⟩
end
/-- What the reference's number answers. -/
def NrP (Q a : Nat) (s : ByteArray) (W : World) (r : Ending) (w' : World) : Prop := But [Q] W w' ∧ ∃ x y, r = .returned (.complex .f64 x y) ∧ x < 18446744073709551616 ∧ y < 18446744073709551616 ∧
  ((∃ c, nu s.data.toList a = (true, c) ∧ Rr w' Q s c 0 0 ∧ Is s.data.toList a (num x y) c) ∨ (∃ c d, nu s.data.toList a = (false, c) ∧ Rr w' Q s d 12 c))
set_option linter.unusedSimpArgs false in
set_option maxRecDepth 100000 in
set_option maxHeartbeats 4000000 in
theorem nr_1 (Q a : Nat) (s : ByteArray) (hs : s.size ≤ 65536) (ha : a ≤ s.size) (W : World) (h : Rr W Q s a 0 0) (b1 : Nat) (k1 : tk s.data.toList [40] a = (false, b1)) (hf : nu s.data.toList a = (false, b1)) : Calls Tryz.prog 23 #[.pointer (some ⟨Q, 0, none⟩), .bool false] W (NrP Q a s W) := by
  obtain ⟨c0, c1, c2, c3, cf⟩ := h.cells
  have hb0 := But.refl [Q] W
  have hr0 := h
  clear h cf
  have HS := Lib.hid hf
  clear hf
  go_enter Tryz.func23, Tryz.ntmps23
  have tok : True := trivial
  go_wp2_with (go_at_call 34; have _t := tok; clear tok; refine (wt_no [40] (by decide) hs ha hr0 hb0 k1).mono ?_; rintro e w1 ⟨rfl, hr1, hb1⟩)
  have tok : True := trivial
  go_wp2_with (go_at_call 49; have _t := tok; clear tok; refine (pt_o 44 hr1 hb1).mono ?_; rintro e w2 ⟨rfl, hr2, hb2⟩)
  have tok : True := trivial
  go_wp2_with (go_at_call 49; have _t := tok; clear tok; refine (pt_o 41 hr2 hb2).mono ?_; rintro e w3 ⟨rfl, hr3, hb3⟩; obtain ⟨y0, y1, y2, y3, yf⟩ := hr3.cells; clear yf)
  go_ret
  exact ⟨hb3, 0, 0, rfl, by decide, by decide, .inr ⟨b1, b1, HS.out, hr3⟩⟩
set_option linter.unusedSimpArgs false in
set_option maxRecDepth 100000 in
set_option maxHeartbeats 4000000 in
theorem nr_2 (Q a : Nat) (s : ByteArray) (hs : s.size ≤ 65536) (ha : a ≤ s.size) (W : World) (h : Rr W Q s a 0 0) (b1 : Nat) (k1 : tk s.data.toList [40] a = (true, b1)) (l1 : b1 ≤ s.size) (b2 : Nat) (k2 : fo 44 s.data.toList b1 = (false, b2)) (hf : nu s.data.toList a = (false, b2)) : Calls Tryz.prog 23 #[.pointer (some ⟨Q, 0, none⟩), .bool false] W (NrP Q a s W) := by
  obtain ⟨c0, c1, c2, c3, cf⟩ := h.cells
  have hb0 := But.refl [Q] W
  have hr0 := h
  clear h cf
  have HS := Lib.hid hf
  clear hf
  go_enter Tryz.func23, Tryz.ntmps23
  have tok : True := trivial
  go_wp2_with (go_at_call 34; have _t := tok; clear tok; refine (wt_ok [40] (by decide) hs ha hr0 hb0 k1).mono ?_; rintro e w1 ⟨rfl, hr1, hb1⟩)
  have tok : True := trivial
  go_wp2_with (go_at_call 49; have _t := tok; clear tok; refine (pt_no 44 hs l1 hr1 hb1 k2).mono ?_; rintro e w2 ⟨x, rfl, hx, ⟨d, hr2⟩, hb2⟩)
  have tok : True := trivial
  go_wp2_with (go_at_call 49; have _t := tok; clear tok; refine (pt_o 41 hr2 hb2).mono ?_; rintro e w3 ⟨rfl, hr3, hb3⟩; obtain ⟨y0, y1, y2, y3, yf⟩ := hr3.cells; clear yf)
  go_ret
  exact ⟨hb3, x, 0, rfl, hx, by decide, .inr ⟨b2, d, HS.out, hr3⟩⟩
set_option linter.unusedSimpArgs false in
set_option maxRecDepth 100000 in
set_option maxHeartbeats 4000000 in
theorem nr_3 (Q a : Nat) (s : ByteArray) (hs : s.size ≤ 65536) (ha : a ≤ s.size) (W : World) (h : Rr W Q s a 0 0) (b1 : Nat) (k1 : tk s.data.toList [40] a = (true, b1)) (l1 : b1 ≤ s.size) (b2 : Nat) (k2 : fo 44 s.data.toList b1 = (true, b2)) (l2 : b2 ≤ s.size) (b3 : Nat) (k3 : fo 41 s.data.toList b2 = (false, b3)) (hf : nu s.data.toList a = (false, b3)) : Calls Tryz.prog 23 #[.pointer (some ⟨Q, 0, none⟩), .bool false] W (NrP Q a s W) := by
  obtain ⟨c0, c1, c2, c3, cf⟩ := h.cells
  have hb0 := But.refl [Q] W
  have hr0 := h
  clear h cf
  have HS := Lib.hid hf
  clear hf
  go_enter Tryz.func23, Tryz.ntmps23
  have tok : True := trivial
  go_wp2_with (go_at_call 34; have _t := tok; clear tok; refine (wt_ok [40] (by decide) hs ha hr0 hb0 k1).mono ?_; rintro e w1 ⟨rfl, hr1, hb1⟩)
  have tok : True := trivial
  go_wp2_with (go_at_call 49; have _t := tok; clear tok; refine (pt_ok 44 hs l1 hr1 hb1 k2).mono ?_; rintro e w2 ⟨x, rfl, hx, _hi, hr2, hb2⟩)
  have tok : True := trivial
  go_wp2_with (go_at_call 49; have _t := tok; clear tok; refine (pt_no 41 hs l2 hr2 hb2 k3).mono ?_; rintro e w3 ⟨y, rfl, hy, ⟨d, hr3⟩, hb3⟩; obtain ⟨y0, y1, y2, y3, yf⟩ := hr3.cells; clear yf)
  go_ret
  exact ⟨hb3, x, y, rfl, hx, hy, .inr ⟨b3, d, HS.out, hr3⟩⟩
set_option linter.unusedSimpArgs false in
set_option maxRecDepth 100000 in
set_option maxHeartbeats 4000000 in
theorem nr_4 (Q a : Nat) (s : ByteArray) (hs : s.size ≤ 65536) (ha : a ≤ s.size) (W : World) (h : Rr W Q s a 0 0) (b1 : Nat) (k1 : tk s.data.toList [40] a = (true, b1)) (l1 : b1 ≤ s.size) (b2 : Nat) (k2 : fo 44 s.data.toList b1 = (true, b2)) (l2 : b2 ≤ s.size) (b3 : Nat) (k3 : fo 41 s.data.toList b2 = (true, b3)) (hf : nu s.data.toList a = (true, b3)) : Calls Tryz.prog 23 #[.pointer (some ⟨Q, 0, none⟩), .bool false] W (NrP Q a s W) := by
  obtain ⟨c0, c1, c2, c3, cf⟩ := h.cells
  have hb0 := But.refl [Q] W
  have hr0 := h
  clear h cf
  have HS := Lib.hid hf
  clear hf
  go_enter Tryz.func23, Tryz.ntmps23
  have tok : True := trivial
  go_wp2_with (go_at_call 34; have _t := tok; clear tok; refine (wt_ok [40] (by decide) hs ha hr0 hb0 k1).mono ?_; rintro e w1 ⟨rfl, hr1, hb1⟩)
  have tok : True := trivial
  go_wp2_with (go_at_call 49; have _t := tok; clear tok; refine (pt_ok 44 hs l1 hr1 hb1 k2).mono ?_; rintro e w2 ⟨x, rfl, hx, hi1, hr2, hb2⟩)
  have tok : True := trivial
  go_wp2_with (go_at_call 49; have _t := tok; clear tok; refine (pt_ok 41 hs l2 hr2 hb2 k3).mono ?_; rintro e w3 ⟨y, rfl, hy, hi2, hr3, hb3⟩; obtain ⟨y0, y1, y2, y3, yf⟩ := hr3.cells; clear yf)
  go_ret
  exact ⟨hb3, x, y, rfl, hx, hy, .inl ⟨b3, HS.out, hr3, nu_is k1 hi1 hi2⟩⟩

theorem nr_any (Q a : Nat) (s : ByteArray) (hs : s.size ≤ 65536) (ha : a ≤ s.size) (W : World) (h : Rr W Q s a 0 0) : Calls Tryz.prog 23 #[.pointer (some ⟨Q, 0, none⟩), .bool false] W (NrP Q a s W) := by
  rcases pair (x := tk s.data.toList [40] a) with ⟨b1, k1⟩ | ⟨b1, k1⟩
  · have l1 : b1 ≤ s.size := by have := tk_le k1 (by simpa using ha); simpa using this
    rcases pair (x := fo 44 s.data.toList b1) with ⟨b2, k2⟩ | ⟨b2, k2⟩
    · have l2 : b2 ≤ s.size := by have := fo_le k2 (by simpa using l1); simpa using this
      rcases pair (x := fo 41 s.data.toList b2) with ⟨b3, k3⟩ | ⟨b3, k3⟩
      · exact nr_4 Q a s hs ha W h b1 k1 l1 b2 k2 l2 b3 k3 (nu_3 k1 k2 k3)
      · exact nr_3 Q a s hs ha W h b1 k1 l1 b2 k2 l2 b3 k3 (nu_3 k1 k2 k3)
    · exact nr_2 Q a s hs ha W h b1 k1 l1 b2 k2 (nu_2 k1 k2)
  · exact nr_1 Q a s hs ha W h b1 k1 (nu_1 k1)
section
variable {Q a b p : Nat} {s : ByteArray} {w0 w : World}
theorem nr_ok (hs : s.size ≤ 65536) (ha : a ≤ s.size) (h : Rr w Q s a 0 0) (hb : But [Q] w0 w) (hk : nu s.data.toList a = (true, b)) : Calls Tryz.prog 23 #[.pointer (some ⟨Q, 0, none⟩), .bool false] w fun r w' => ∃ x y, r = .returned (.complex .f64 x y) ∧ (x < 18446744073709551616 ∧ y < 18446744073709551616 ∧ Is s.data.toList a (num x y) b) ∧ Rr w' Q s b 0 0 ∧ But [Q] w0 w' := by
  refine (nr_any Q a s hs ha w h).mono ?_
  rintro r w' ⟨h1, x, y, h2, h3, h3', ⟨c, h4, h5, h6⟩ | ⟨c, d, h4, h5⟩⟩
  · rw [hk] at h4; cases h4; exact ⟨x, y, h2, ⟨h3, h3', h6⟩, h5, hb.trans h1⟩
  · rw [hk] at h4; cases h4
theorem nr_no (hs : s.size ≤ 65536) (ha : a ≤ s.size) (h : Rr w Q s a 0 0) (hb : But [Q] w0 w) (hk : nu s.data.toList a = (false, b)) : Calls Tryz.prog 23 #[.pointer (some ⟨Q, 0, none⟩), .bool false] w fun r w' => ∃ x y, r = .returned (.complex .f64 x y) ∧ (∃ d, Rr w' Q s d 12 b) ∧ But [Q] w0 w' := by
  refine (nr_any Q a s hs ha w h).mono ?_
  rintro r w' ⟨h1, x, y, h2, h3, h3', ⟨c, h4, h5, h6⟩ | ⟨c, d, h4, h5⟩⟩
  · rw [hk] at h4; cases h4
  · rw [hk] at h4; cases h4; exact ⟨x, y, h2, ⟨d, h5⟩, hb.trans h1⟩
end
set_option linter.unusedSimpArgs false in
set_option maxRecDepth 100000 in
set_option maxHeartbeats 4000000 in
theorem doc_long (s : ByteArray) (hs : 65536 < s.size) (W : World) : Calls Tryz.prog 8 #[.string s] W fun e w' => e = RdE 0 0 0 2 ∧ But [] W w' := by
  have t1 : decide ((s.size : Int) > 65536) = true := by simp; omega
  go_enter Tryz.func8, Tryz.ntmps8
  go_wp2_with fail
  exact bodyPost_ret (results_tmp3 rfl _ _ _) rfl ⟨rfl, But.refl _ _⟩
set_option linter.unusedSimpArgs false in
set_option maxRecDepth 100000 in
set_option maxHeartbeats 4000000 in
theorem doc_no (s : ByteArray) (hs : s.size ≤ 65536) (b : Nat) (k : nu s.data.toList 0 = (false, b)) (W : World) : Calls Tryz.prog 8 #[.string s] W fun e w' => e = RdE 0 0 b 12 ∧ But [] W w' := by
  obtain ⟨U, hU⟩ : ∃ U, U = W.alloc (.cells #[.string s, .int .i64 0, .int .i64 0, .int .i64 0] 60) := ⟨_, rfl⟩
  have u0 : But [] W U := hU ▸ (But.refl [] W).alloc _
  have uR : Rr U W.heap.size s 0 0 0 := by rw [hU]; show (W.heap.push _)[_]? = _; exact Array.getElem?_push_size
  have t1 : decide ((s.size : Int) > 65536) = false := by simp; omega
  have hk := (nr_no hs (Nat.zero_le _) uR (But.refl [W.heap.size] U) k)
  go_enter Tryz.func8, Tryz.ntmps8
  go_wp2_with (first | (go_at_call 23; rw [← hU]; refine hk.mono ?_; rintro e w1 ⟨x, y, rfl, ⟨d, hr⟩, hb⟩) | (go_at_call 24; refine (rend_off _ _ _ 12 rfl s _ hr).mono ?_; rintro e w2 ⟨rfl, hb2⟩))
  refine bodyPost_ret (results_tmp3 rfl _ _ _) rfl ?_
  exact ⟨rfl, (u0.then hb (by simp; omega)).trans hb2⟩
set_option linter.unusedSimpArgs false in
set_option maxRecDepth 100000 in
set_option maxHeartbeats 4000000 in
theorem doc_more (s : ByteArray) (hs : s.size ≤ 65536) (c : Nat) (hc : c < s.size) (k : nu s.data.toList 0 = (true, c)) (W : World) : Calls Tryz.prog 8 #[.string s] W fun e w' => e = RdE 0 0 c 12 ∧ But [] W w' := by
  obtain ⟨U, hU⟩ : ∃ U, U = W.alloc (.cells #[.string s, .int .i64 0, .int .i64 0, .int .i64 0] 60) := ⟨_, rfl⟩
  have u0 : But [] W U := hU ▸ (But.refl [] W).alloc _
  have uR : Rr U W.heap.size s 0 0 0 := by rw [hU]; show (W.heap.push _)[_]? = _; exact Array.getElem?_push_size
  have t1 : decide ((s.size : Int) > 65536) = false := by simp; omega
  have hk := (nr_ok hs (Nat.zero_le _) uR (But.refl [W.heap.size] U) k)
  go_enter Tryz.func8, Tryz.ntmps8
  go_wp2_with (first | (go_at_call 23; rw [← hU]; refine hk.mono ?_; rintro e w1 ⟨x, y, rfl, hx, hr, hb⟩) | (go_at_call 24; refine (rend_more _ _ _ s hc _ hr).mono ?_; rintro e w2 ⟨rfl, hb2⟩))
  refine bodyPost_ret (results_tmp3 rfl _ _ _) rfl ?_
  exact ⟨rfl, u0.then (hb.trans hb2) (by simp; omega)⟩
set_option linter.unusedSimpArgs false in
set_option maxRecDepth 100000 in
set_option maxHeartbeats 4000000 in
theorem doc_ok (s : ByteArray) (hs : s.size ≤ 65536) (k : nu s.data.toList 0 = (true, s.size)) (W : World) : Calls Tryz.prog 8 #[.string s] W fun e w' => ∃ x y, e = RdE x y 0 0 ∧ (x < 18446744073709551616 ∧ y < 18446744073709551616 ∧ Is s.data.toList 0 (num x y) s.size) ∧ But [] W w' := by
  obtain ⟨U, hU⟩ : ∃ U, U = W.alloc (.cells #[.string s, .int .i64 0, .int .i64 0, .int .i64 0] 60) := ⟨_, rfl⟩
  have u0 : But [] W U := hU ▸ (But.refl [] W).alloc _
  have uR : Rr U W.heap.size s 0 0 0 := by rw [hU]; show (W.heap.push _)[_]? = _; exact Array.getElem?_push_size
  have t1 : decide ((s.size : Int) > 65536) = false := by simp; omega
  have hk := (nr_ok hs (Nat.zero_le _) uR (But.refl [W.heap.size] U) k)
  go_enter Tryz.func8, Tryz.ntmps8
  go_wp2_with (first | (go_at_call 23; rw [← hU]; refine hk.mono ?_; rintro e w1 ⟨x, y, rfl, hx, hr, hb⟩) | (go_at_call 24; refine (rend_full _ _ _ s rfl _ hr).mono ?_; rintro e w2 ⟨rfl, hb2⟩))
  refine bodyPost_ret (results_tmp3 rfl _ _ _) rfl ?_
  exact ⟨x, y, rfl, hx, (u0.then hb (by simp; omega)).trans hb2⟩

/-- Every DocRead. -/
theorem Doc_any (s : ByteArray) (W : World) : Calls Tryz.prog 8 #[.string s] W fun e w' => But [] W w' ∧
    ((65536 < s.size ∧ e = RdE 0 0 0 2) ∨ (s.size ≤ 65536 ∧ ∃ b, nu s.data.toList 0 = (false, b) ∧ e = RdE 0 0 b 12) ∨ (s.size ≤ 65536 ∧ ∃ c, c < s.size ∧ nu s.data.toList 0 = (true, c) ∧ e = RdE 0 0 c 12) ∨
      (s.size ≤ 65536 ∧ ∃ x y, nu s.data.toList 0 = (true, s.size) ∧ e = RdE x y 0 0 ∧ x < 18446744073709551616 ∧ y < 18446744073709551616 ∧ Is s.data.toList 0 (num x y) s.size)) := by
  by_cases hs : 65536 < s.size
  · exact (doc_long s hs W).mono fun e w' ⟨h1, h2⟩ => ⟨h2, .inl ⟨hs, h1⟩⟩
  have hs' : s.size ≤ 65536 := by omega
  rcases pair (x := nu s.data.toList 0) with ⟨c, k⟩ | ⟨b, k⟩
  · by_cases hc : c < s.size
    · exact (doc_more s hs' c hc k W).mono fun e w' ⟨h1, h2⟩ => ⟨h2, .inr (.inr (.inl ⟨hs', c, hc, k, h1⟩))⟩
    · have hcl : c = s.size := by
        have := nu_le k (Nat.zero_le _)
        simp at this; omega
      subst hcl
      exact (doc_ok s hs' k W).mono fun e w' ⟨x, y, h1, h2, h3⟩ => ⟨h3, .inr (.inr (.inr ⟨hs', x, y, k, h1, h2⟩))⟩
  · exact (doc_no s hs' b k W).mono fun e w' ⟨h1, h2⟩ => ⟨h2, .inr (.inl ⟨hs', b, k, h1⟩)⟩
end Go.Proofs.YtnghppgpdeghfaaGreatDoor
