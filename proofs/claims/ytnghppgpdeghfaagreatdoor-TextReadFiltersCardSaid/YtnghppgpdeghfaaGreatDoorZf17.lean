/- The reference's number where it has to be finite. The reference's reader once it has a fault, whatever its error. Rows of bytes that a walk owns, and append. Rows of complex numbers that a walk owns; how roots are read. -/
import Derived.Test.YtnghppgpdeghfaaGreatDoorZf16
import Derived.Lib.AppendStr
import Derived.Laws.IdiomStrings
namespace Go.Proofs.YtnghppgpdeghfaaGreatDoor
open Go.RowKit Go.Proofs.YtnghppgpdeghfaaGreatDoor.Fl Go.Proofs.YtnghppgpdeghfaaGreatDoor.Pt Go.Proofs.YtnghppgpdeghfaaGreatDoor.Tx

/-- What the reference's number answers where it has to be finite. -/
def NfP (Q a : Nat) (s : ByteArray) (W : World) (r : Ending) (w' : World) : Prop := But [Q] W w' ∧ ∃ x y, r = .returned (.complex .f64 x y) ∧ x < 18446744073709551616 ∧ y < 18446744073709551616 ∧
  ((∃ c, nu s.data.toList a = (true, c) ∧ Rr w' Q s c 0 0 ∧ Is s.data.toList a (num x y) c ∧ finB x y = true) ∨ (∃ c, nu s.data.toList a = (true, c) ∧ (¬ FiN s.data.toList a c) ∧ Rr w' Q s c 5 a) ∨ (∃ c d, nu s.data.toList a = (false, c) ∧ Rr w' Q s d 12 c))
set_option linter.unusedSimpArgs false in
set_option maxRecDepth 100000 in
set_option maxHeartbeats 4000000 in
theorem nt_1 (Q a : Nat) (s : ByteArray) (hs : s.size ≤ 65536) (ha : a ≤ s.size) (W : World) (h : Rr W Q s a 0 0) (b1 : Nat) (k1 : tk s.data.toList [40] a = (false, b1)) (hf : nu s.data.toList a = (false, b1)) : Calls Tryz.prog 23 #[.pointer (some ⟨Q, 0, none⟩), .bool true] W (NfP Q a s W) := by
  obtain ⟨c0, c1, c2, c3, cf⟩ := h.cells
  have hb0 := But.refl [Q] W
  have hr0 := h
  clear h cf
  have HS := Lib.hid hf
  clear hf
  go_enter Tryz.func23, Tryz.ntmps23
  have tok : True := trivial
  go_wp2_with (go_at_call 34; have _t := tok; clear tok; refine (wt_no [40] (by decide) hs ha hr0 hb0 k1).mono ?_; rintro e w1 ⟨rfl, hr1, hb1⟩)
  have tok : True := trivial
  go_wp2_with (go_at_call 49; have _t := tok; clear tok; refine (pt_o 44 hr1 hb1).mono ?_; rintro e w2 ⟨rfl, hr2, hb2⟩)
  have tok : True := trivial
  go_wp2_with (go_at_call 49; have _t := tok; clear tok; refine (pt_o 41 hr2 hb2).mono ?_; rintro e w3 ⟨rfl, hr3, hb3⟩; obtain ⟨y0, y1, y2, y3, yf⟩ := hr3.cells; clear yf)
  go_ret
  exact ⟨hb3, 0, 0, rfl, by decide, by decide, .inr (.inr ⟨b1, b1, HS.out, hr3⟩)⟩
set_option linter.unusedSimpArgs false in
set_option maxRecDepth 100000 in
set_option maxHeartbeats 4000000 in
theorem nt_2 (Q a : Nat) (s : ByteArray) (hs : s.size ≤ 65536) (ha : a ≤ s.size) (W : World) (h : Rr W Q s a 0 0) (b1 : Nat) (k1 : tk s.data.toList [40] a = (true, b1)) (l1 : b1 ≤ s.size) (b2 : Nat) (k2 : fo 44 s.data.toList b1 = (false, b2)) (hf : nu s.data.toList a = (false, b2)) : Calls Tryz.prog 23 #[.pointer (some ⟨Q, 0, none⟩), .bool true] W (NfP Q a s W) := by
  obtain ⟨c0, c1, c2, c3, cf⟩ := h.cells
  have hb0 := But.refl [Q] W
  have hr0 := h
  clear h cf
  have HS := Lib.hid hf
  clear hf
  go_enter Tryz.func23, Tryz.ntmps23
  have tok : True := trivial
  go_wp2_with (go_at_call 34; have _t := tok; clear tok; refine (wt_ok [40] (by decide) hs ha hr0 hb0 k1).mono ?_; rintro e w1 ⟨rfl, hr1, hb1⟩)
  have tok : True := trivial
  go_wp2_with (go_at_call 49; have _t := tok; clear tok; refine (pt_no 44 hs l1 hr1 hb1 k2).mono ?_; rintro e w2 ⟨x, rfl, hx, ⟨d, hr2⟩, hb2⟩)
  have tok : True := trivial
  go_wp2_with (go_at_call 49; have _t := tok; clear tok; refine (pt_o 41 hr2 hb2).mono ?_; rintro e w3 ⟨rfl, hr3, hb3⟩; obtain ⟨y0, y1, y2, y3, yf⟩ := hr3.cells; clear yf)
  go_ret
  exact ⟨hb3, x, 0, rfl, hx, by decide, .inr (.inr ⟨b2, d, HS.out, hr3⟩)⟩
set_option linter.unusedSimpArgs false in
set_option maxRecDepth 100000 in
set_option maxHeartbeats 4000000 in
theorem nt_3 (Q a : Nat) (s : ByteArray) (hs : s.size ≤ 65536) (ha : a ≤ s.size) (W : World) (h : Rr W Q s a 0 0) (b1 : Nat) (k1 : tk s.data.toList [40] a = (true, b1)) (l1 : b1 ≤ s.size) (b2 : Nat) (k2 : fo 44 s.data.toList b1 = (true, b2)) (l2 : b2 ≤ s.size) (b3 : Nat) (k3 : fo 41 s.data.toList b2 = (false, b3)) (hf : nu s.data.toList a = (false, b3)) : Calls Tryz.prog 23 #[.pointer (some ⟨Q, 0, none⟩), .bool true] W (NfP Q a s W) := by
  obtain ⟨c0, c1, c2, c3, cf⟩ := h.cells
  have hb0 := But.refl [Q] W
  have hr0 := h
  clear h cf
  have HS := Lib.hid hf
  clear hf
  go_enter Tryz.func23, Tryz.ntmps23
  have tok : True := trivial
  go_wp2_with (go_at_call 34; have _t := tok; clear tok; refine (wt_ok [40] (by decide) hs ha hr0 hb0 k1).mono ?_; rintro e w1 ⟨rfl, hr1, hb1⟩)
  have tok : True := trivial
  go_wp2_with (go_at_call 49; have _t := tok; clear tok; refine (pt_ok 44 hs l1 hr1 hb1 k2).mono ?_; rintro e w2 ⟨x, rfl, hx, _hi, hr2, hb2⟩)
  have tok : True := trivial
  go_wp2_with (go_at_call 49; have _t := tok; clear tok; refine (pt_no 41 hs l2 hr2 hb2 k3).mono ?_; rintro e w3 ⟨y, rfl, hy, ⟨d, hr3⟩, hb3⟩; obtain ⟨y0, y1, y2, y3, yf⟩ := hr3.cells; clear yf)
  go_ret
  exact ⟨hb3, x, y, rfl, hx, hy, .inr (.inr ⟨b3, d, HS.out, hr3⟩)⟩
set_option linter.unusedSimpArgs false in
set_option maxRecDepth 100000 in
set_option maxHeartbeats 4000000 in
theorem nt_4 (Q a : Nat) (s : ByteArray) (hs : s.size ≤ 65536) (ha : a ≤ s.size) (W : World) (h : Rr W Q s a 0 0) (b1 : Nat) (k1 : tk s.data.toList [40] a = (true, b1)) (l1 : b1 ≤ s.size) (b2 : Nat) (k2 : fo 44 s.data.toList b1 = (true, b2)) (l2 : b2 ≤ s.size) (b3 : Nat) (k3 : fo 41 s.data.toList b2 = (true, b3)) (hf : nu s.data.toList a = (true, b3)) (hfn : FiN s.data.toList a b3) : Calls Tryz.prog 23 #[.pointer (some ⟨Q, 0, none⟩), .bool true] W (NfP Q a s W) := by
  obtain ⟨c0, c1, c2, c3, cf⟩ := h.cells
  have hb0 := But.refl [Q] W
  have hr0 := h
  clear h cf
  have HS := Lib.hid hf
  clear hf
  have HFN := Lib.hid hfn
  clear hfn
  go_enter Tryz.func23, Tryz.ntmps23
  have tok : True := trivial
  go_wp2_with (go_at_call 34; have _t := tok; clear tok; refine (wt_ok [40] (by decide) hs ha hr0 hb0 k1).mono ?_; rintro e w1 ⟨rfl, hr1, hb1⟩)
  have tok : True := trivial
  go_wp2_with (go_at_call 49; have _t := tok; clear tok; refine (pt_ok 44 hs l1 hr1 hb1 k2).mono ?_; rintro e w2 ⟨x, rfl, hx, hi1, hr2, hb2⟩)
  have tok : True := trivial
  go_wp2_with (go_at_call 49; have _t := tok; clear tok; refine (pt_ok 41 hs l2 hr2 hb2 k3).mono ?_; rintro e w3 ⟨y, rfl, hy, hi2, hr3, hb3⟩; obtain ⟨y0, y1, y2, y3, yf⟩ := hr3.cells; clear yf; have HI := Lib.hid (nu_is k1 hi1 hi2); have hv := (fin_told hx hy HI.out).1 HFN.out; clear hi1 hi2)
  have tok : True := trivial
  go_wp2_with (go_at_call 50; have _t := tok; clear tok; refine (rfinite_any x y hx hy _).mono ?_; rintro e wf ⟨rfl, hwf⟩; rw [hv, ← hwf]; clear hwf wf)
  go_ret
  exact ⟨hb3, x, y, rfl, hx, hy, .inl ⟨b3, HS.out, hr3, HI.out, hv⟩⟩
set_option linter.unusedSimpArgs false in
set_option maxRecDepth 100000 in
set_option maxHeartbeats 4000000 in
theorem nt_5 (Q a : Nat) (s : ByteArray) (hs : s.size ≤ 65536) (ha : a ≤ s.size) (W : World) (h : Rr W Q s a 0 0) (b1 : Nat) (k1 : tk s.data.toList [40] a = (true, b1)) (l1 : b1 ≤ s.size) (b2 : Nat) (k2 : fo 44 s.data.toList b1 = (true, b2)) (l2 : b2 ≤ s.size) (b3 : Nat) (k3 : fo 41 s.data.toList b2 = (true, b3)) (hf : nu s.data.toList a = (true, b3)) (hfn : ¬ FiN s.data.toList a b3) : Calls Tryz.prog 23 #[.pointer (some ⟨Q, 0, none⟩), .bool true] W (NfP Q a s W) := by
  obtain ⟨c0, c1, c2, c3, cf⟩ := h.cells
  have hb0 := But.refl [Q] W
  have hr0 := h
  clear h cf
  have HS := Lib.hid hf
  clear hf
  have HFN := Lib.hid hfn
  clear hfn
  go_enter Tryz.func23, Tryz.ntmps23
  have tok : True := trivial
  go_wp2_with (go_at_call 34; have _t := tok; clear tok; refine (wt_ok [40] (by decide) hs ha hr0 hb0 k1).mono ?_; rintro e w1 ⟨rfl, hr1, hb1⟩)
  have tok : True := trivial
  go_wp2_with (go_at_call 49; have _t := tok; clear tok; refine (pt_ok 44 hs l1 hr1 hb1 k2).mono ?_; rintro e w2 ⟨x, rfl, hx, hi1, hr2, hb2⟩)
  have tok : True := trivial
  go_wp2_with (go_at_call 49; have _t := tok; clear tok; refine (pt_ok 41 hs l2 hr2 hb2 k3).mono ?_; rintro e w3 ⟨y, rfl, hy, hi2, hr3, hb3⟩; obtain ⟨y0, y1, y2, y3, yf⟩ := hr3.cells; clear yf; have HI := Lib.hid (nu_is k1 hi1 hi2); have hv := (fin_told hx hy HI.out).2 HFN.out; clear hi1 hi2)
  have tok : True := trivial
  go_wp2_with (go_at_call 50; have _t := tok; clear tok; refine (rfinite_any x y hx hy _).mono ?_; rintro e wf ⟨rfl, hwf⟩; rw [hv, ← hwf]; clear hwf wf)
  have tok : True := trivial
  go_wp2_with (go_at_call 43; have _t := tok; clear tok; refine (fa_on 5 a hr3 hb3).mono ?_; rintro e w4 ⟨rfl, hr4, hb4⟩)
  go_ret
  exact ⟨hb4, x, y, rfl, hx, hy, .inr (.inl ⟨b3, HS.out, HFN.out, hr4⟩)⟩

theorem nt_any (Q a : Nat) (s : ByteArray) (hs : s.size ≤ 65536) (ha : a ≤ s.size) (W : World) (h : Rr W Q s a 0 0) : Calls Tryz.prog 23 #[.pointer (some ⟨Q, 0, none⟩), .bool true] W (NfP Q a s W) := by
  rcases pair (x := tk s.data.toList [40] a) with ⟨b1, k1⟩ | ⟨b1, k1⟩
  · have l1 : b1 ≤ s.size := by have := tk_le k1 (by simpa using ha); simpa using this
    rcases pair (x := fo 44 s.data.toList b1) with ⟨b2, k2⟩ | ⟨b2, k2⟩
    · have l2 : b2 ≤ s.size := by have := fo_le k2 (by simpa using l1); simpa using this
      rcases pair (x := fo 41 s.data.toList b2) with ⟨b3, k3⟩ | ⟨b3, k3⟩
      · by_cases hfn : FiN s.data.toList a b3
        · exact nt_4 Q a s hs ha W h b1 k1 l1 b2 k2 l2 b3 k3 (nu_3 k1 k2 k3) hfn
        · exact nt_5 Q a s hs ha W h b1 k1 l1 b2 k2 l2 b3 k3 (nu_3 k1 k2 k3) hfn
      · exact nt_3 Q a s hs ha W h b1 k1 l1 b2 k2 l2 b3 k3 (nu_3 k1 k2 k3)
    · exact nt_2 Q a s hs ha W h b1 k1 l1 b2 k2 (nu_2 k1 k2)
  · exact nt_1 Q a s hs ha W h b1 k1 (nu_1 k1)
end Go.Proofs.YtnghppgpdeghfaaGreatDoor
namespace Go.Proofs.YtnghppgpdeghfaaGreatDoor
open Go.RowKit Go.Proofs.YtnghppgpdeghfaaGreatDoor.Fl Go.Proofs.YtnghppgpdeghfaaGreatDoor.Pt Go.Proofs.YtnghppgpdeghfaaGreatDoor.Tx

section
variable {Q a p f : Nat} {s : ByteArray} {w0 w : World}
theorem is_g (hf0 : ((f : Int) == 0) = false) (c : UInt8) (h : Rr w Q s a f p) (hb : But [Q] w0 w) : Calls Tryz.prog 42 #[.pointer (some ⟨Q, 0, none⟩), .int .u8 (c.toNat : Int)] w fun e w' => e = .returned (.bool false) ∧ Rr w' Q s a f p ∧ But [Q] w0 w' :=
  (ris_off Q a p f hf0 s c w h).mono fun _ _ ⟨h1, h2⟩ => ⟨h1, h.keep h2 (by simp), hb.trans (h2.weak (by simp))⟩
theorem wt_g (hf0 : ((f : Int) == 0) = false) (t : List UInt8) (ht : t.length ≤ 100) (h : Rr w Q s a f p) (hb : But [Q] w0 w) : Calls Tryz.prog 34 #[.pointer (some ⟨Q, 0, none⟩), .string (str t)] w fun e w' => e = .returned (.tuple #[]) ∧ Rr w' Q s a f p ∧ But [Q] w0 w' :=
  (rwant_off Q a p f hf0 s t ht w h).mono fun _ _ ⟨h1, h2⟩ => ⟨h1, h.keep h2 (by simp), hb.trans (h2.weak (by simp))⟩
theorem ru_g (hf1 : ((f : Int) != 0) = true) (hex nz : Bool) (h : Rr w Q s a f p) (hb : But [Q] w0 w) : Calls Tryz.prog 79 #[.pointer (some ⟨Q, 0, none⟩), .bool hex, .bool nz] w fun e w' => e = .returned (.string (str [])) ∧ Rr w' Q s a f p ∧ But [Q] w0 w' :=
  (rrun_off Q a p f hf1 s hex nz w h).mono fun _ _ ⟨h1, h2⟩ => ⟨h1, h.keep h2 (by simp), hb.trans (h2.weak (by simp))⟩
theorem fa_g (hf0 : ((f : Int) == 0) = false) (e' p' : Nat) (h : Rr w Q s a f p) (hb : But [Q] w0 w) : Calls Tryz.prog 43 #[.pointer (some ⟨Q, 0, none⟩), .int .i64 (e' : Int), .int .i64 (p' : Int)] w fun e w' => e = .returned (.tuple #[]) ∧ Rr w' Q s a f p ∧ But [Q] w0 w' :=
  (rfail_off Q a f p e' p' hf0 s w h).mono fun _ _ ⟨h1, h2⟩ => ⟨h1, by rw [h2]; exact h, by rw [h2]; exact hb⟩
end
set_option linter.unusedSimpArgs false in
set_option maxRecDepth 100000 in
set_option maxHeartbeats 4000000 in
theorem rf_g (Q a p f : Nat) (hf0 : ((f : Int) == 0) = false) (hf1 : ((f : Int) != 0) = true) (s : ByteArray) (W : World) (h : Rr W Q s a f p) : Calls Tryz.prog 63 #[.pointer (some ⟨Q, 0, none⟩)] W fun r w' => r = .returned (.tuple #[.float .f64 0, .bool false]) ∧ Rr w' Q s a f p ∧ But [Q] W w' := by
  have hb0 := But.refl [Q] W
  have hr0 := h
  clear h
  go_enter Tryz.func63, Tryz.ntmps63
  have tok : True := trivial
  go_wp2_with (go_at_call 42; have _t := tok; clear tok; refine (is_g hf0 45 hr0 hb0).mono ?_; rintro e w1 ⟨rfl, hr1, hb1⟩)
  have tok : True := trivial
  go_wp2_with (go_at_call 42; have _t := tok; clear tok; refine (is_g hf0 110 hr1 hb1).mono ?_; rintro e w2 ⟨rfl, hr2, hb2⟩)
  have tok : True := trivial
  go_wp2_with (go_at_call 42; have _t := tok; clear tok; refine (is_g hf0 105 hr2 hb2).mono ?_; rintro e w3 ⟨rfl, hr3, hb3⟩)
  have tok : True := trivial
  go_wp2_with (go_at_call 34; have _t := tok; clear tok; refine (wt_g hf0 [48, 120] (by decide) hr3 hb3).mono ?_; rintro e w4 ⟨rfl, hr4, hb4⟩)
  have tok : True := trivial
  go_wp2_with (go_at_call 79; have _t := tok; clear tok; refine (ru_g hf1 true false hr4 hb4).mono ?_; rintro e w5 ⟨rfl, hr5, hb5⟩)
  have tok : True := trivial
  go_wp2_with (go_at_call 34; have _t := tok; clear tok; refine (wt_g hf0 [112] (by decide) hr5 hb5).mono ?_; rintro e w6 ⟨rfl, hr6, hb6⟩)
  have tok : True := trivial
  go_wp2_with (go_at_call 42; have _t := tok; clear tok; refine (is_g hf0 45 hr6 hb6).mono ?_; rintro e w7 ⟨rfl, hr7, hb7⟩)
  have tok : True := trivial
  go_wp2_with (go_at_call 79; have _t := tok; clear tok; refine (ru_g hf1 false false hr7 hb7).mono ?_; rintro e w8 ⟨rfl, hr8, hb8⟩; obtain ⟨y0, y1, y2, y3, yf⟩ := hr8.cells; clear yf)
  exact bodyPost_ret (results_tmp2 rfl _ _ _) rfl ⟨rfl, hr8, hb8⟩
set_option linter.unusedSimpArgs false in
set_option maxRecDepth 100000 in
set_option maxHeartbeats 4000000 in
theorem pt_g (Q a p f : Nat) (hf0 : ((f : Int) == 0) = false) (hf1 : ((f : Int) != 0) = true) (e0 : UInt8) (s : ByteArray) (W : World) (h : Rr W Q s a f p) : Calls Tryz.prog 49 #[.pointer (some ⟨Q, 0, none⟩), .int .u8 (e0.toNat : Int)] W fun r w' => r = .returned (.float .f64 0) ∧ Rr w' Q s a f p ∧ But [Q] W w' := by
  obtain ⟨c0, c1, c2, c3, cf⟩ := h.cells
  have hb0 := But.refl [Q] W
  have hr0 := h
  clear h cf
  go_enter Tryz.func49, Tryz.ntmps49
  have tok : True := trivial
  go_wp2_with (go_at_call 63; have _t := tok; clear tok; refine (rf_g Q a p f hf0 hf1 s _ hr0).mono ?_; rintro e w1 ⟨rfl, hr1, hbb⟩; have hb1 := hb0.trans hbb)
  have tok : True := trivial
  go_wp2_with (go_at_call 42; have _t := tok; clear tok; refine (is_g hf0 e0 hr1 hb1).mono ?_; rintro e w2 ⟨rfl, hr2, hb2⟩; obtain ⟨z0, z1, z2, z3, zf⟩ := hr2.cells; clear zf)
  have tok : True := trivial
  go_wp2_with (go_at_call 43; have _t := tok; clear tok; refine (fa_g hf0 _ _ hr2 hb2).mono ?_; rintro e w3 ⟨rfl, hr3, hb3⟩; obtain ⟨y0, y1, y2, y3, yf⟩ := hr3.cells; clear yf)
  have tok : True := trivial
  go_wp2_with (go_at_call 43; have _t := tok; clear tok; refine (fa_g hf0 _ _ hr3 hb3).mono ?_; rintro e w4 ⟨rfl, hr4, hb4⟩; obtain ⟨x0, x1, x2, x3, xf⟩ := hr4.cells; clear xf)
  go_ret
  exact ⟨rfl, hr4, hb4⟩
set_option linter.unusedSimpArgs false in
set_option maxRecDepth 100000 in
set_option maxHeartbeats 4000000 in
theorem nt_g (Q a p f : Nat) (hf0 : ((f : Int) == 0) = false) (hf1 : ((f : Int) != 0) = true) (must : Bool) (s : ByteArray) (W : World) (h : Rr W Q s a f p) : Calls Tryz.prog 23 #[.pointer (some ⟨Q, 0, none⟩), .bool must] W fun r w' => r = .returned (.complex .f64 0 0) ∧ Rr w' Q s a f p ∧ But [Q] W w' := by
  obtain ⟨c0, c1, c2, c3, cf⟩ := h.cells
  have hb0 := But.refl [Q] W
  have hr0 := h
  clear h cf
  go_enter Tryz.func23, Tryz.ntmps23
  have tok : True := trivial
  go_wp2_with (go_at_call 34; have _t := tok; clear tok; refine (wt_g hf0 [40] (by decide) hr0 hb0).mono ?_; rintro e w1 ⟨rfl, hr1, hb1⟩)
  have tok : True := trivial
  go_wp2_with (go_at_call 49; have _t := tok; clear tok; refine (pt_g Q a p f hf0 hf1 44 s _ hr1).mono ?_; rintro e w2 ⟨rfl, hr2, hbb2⟩; have hb2 := hb1.trans hbb2; obtain ⟨y02, y12, y22, y32, yf2⟩ := hr2.cells; clear yf2)
  have tok : True := trivial
  go_wp2_with (go_at_call 49; have _t := tok; clear tok; refine (pt_g Q a p f hf0 hf1 41 s _ hr2).mono ?_; rintro e w3 ⟨rfl, hr3, hbb3⟩; have hb3 := hb2.trans hbb3; obtain ⟨y03, y13, y23, y33, yf3⟩ := hr3.cells; clear yf3)
  go_ret
  exact ⟨rfl, hr3, hb3⟩
end Go.Proofs.YtnghppgpdeghfaaGreatDoor
namespace Go.Proofs.YtnghppgpdeghfaaGreatDoor
open Go.RowKit Go.Proofs.YtnghppgpdeghfaaGreatDoor.Fl Go.Proofs.YtnghppgpdeghfaaGreatDoor.Pt Go.Proofs.YtnghppgpdeghfaaGreatDoor.Tx

theorem info5 : (Tryz.prog.info? 5).map (fun i => (i.zero, i.size, i.bytes)) = some (some (.int .u8 0), 1, 1) := by kernel_rfl
/-- A slice value that owns its row of bytes. -/
def OB (w : World) (B : Nat) (v : Value) (L : List Nat) : Prop := w.ownsRow B 5 1 v L.length (L.map fun b : Nat => Value.int .u8 (b : Int))
theorem OB.keep {w w' : World} {B : Nat} {v : Value} {L : List Nat} {qs : List Nat} (h : OB w B v L) (k : But qs w w') (hb : ∀ g, v.ownBlock = some g → g ∉ qs) : OB w' B v L := by
  obtain ⟨hl, h1⟩ := h
  refine ⟨hl, ?_⟩
  rcases h1 with h1 | ⟨g, cap, cur, rfl, hb', hg, r⟩
  · exact .inl h1
  · exact .inr ⟨g, cap, cur, rfl, hb', k.heap hg (hb g rfl), r⟩
theorem OB.alloc {w : World} {B : Nat} {v : Value} {L : List Nat} (h : OB w B v L) (o : Obj) : OB (w.alloc o) B v L := h.keep ((But.refl [] w).alloc o) (by simp)
theorem OB.block {w : World} {B : Nat} {v : Value} {L : List Nat} (h : OB w B v L) : ∀ g, v.ownBlock = some g → B ≤ g := fun g hg => (World.ownsRow.lt h g hg).1
theorem OB.form {w : World} {B : Nat} {v : Value} {L : List Nat} (h : OB w B v L) : (v = .slice none 0 0 ∧ L = []) ∨ ∃ g cap cur, v = .slice (some ⟨g, 0, none⟩) L.length cap ∧ B ≤ g ∧ w.heap[g]? = some (.cells cur 5 (0, 0)) ∧ L.length ≤ cap ∧ ∀ j b : Nat, L[j]? = some b → w.cell? ⟨g, j, none⟩ = some (.int .u8 (b : Int)) := by
  obtain ⟨hl, h1⟩ := h
  rcases h1 with ⟨h1, h2⟩ | ⟨g, cap, cur, rfl, hb, hg, hnc, _, hs, ht⟩
  · exact .inl ⟨h1, List.eq_nil_of_length_eq_zero h2⟩
  · refine .inr ⟨g, cap, cur, rfl, hb, hg, hnc, fun j b hj => ?_⟩
    have hjl := (List.getElem?_eq_some_iff.1 hj).1
    have h3 : (L.map fun b : Nat => Value.int .u8 (b : Int))[j]? = some (.int .u8 (b : Int)) := by rw [List.getElem?_map, hj]; rfl
    rw [← ht, List.getElem?_take, if_pos (by omega)] at h3
    rw [cell_of_row w g j _ _ _ hg]
    simpa using h3
theorem own_in {v : Value} {w : World} {g : Nat} (h : v.ownBlock = some g ∨ w.heap.size ≤ g) : g ∈ v.ownBlock.toList ∨ w.heap.size ≤ g := by
  rcases h with h | h
  · exact .inl (by rw [h]; simp)
  · exact .inr h
theorem own_next {v u v' : Value} {w : World} {m : Nat} (h : ∀ g, u.ownBlock = some g → v.ownBlock = some g ∨ w.heap.size ≤ g) (h' : v'.ownBlock = u.ownBlock ∨ v'.ownBlock = some m) (hm : w.heap.size ≤ m) : ∀ g, v'.ownBlock = some g → v.ownBlock = some g ∨ w.heap.size ≤ g := by
  intro g hg
  rcases h' with h' | h'
  · exact h g (h' ▸ hg)
  · rw [h'] at hg; cases hg; exact .inr hm
/-- append of bytes that lie in memory. -/
theorem wpList_append_ob {w : World} {ops : Array Oper} {rest : List Oper} {o : Oper} {a : Act} {Q : Exit → Act → World → Prop} (hgd : o.guard = none) (s x : Operand)
    (ho : o.op = .call { callee := .builtin .append, args := #[s, x], argTypes := #[32, 32] }) (B : Nat) (v : Value) (L : List Nat) (hs : a.eval s = v) (hown : OB w B v L)
    (ad : Addr) (m c : Nat) (N : List Nat) (hx : a.eval x = .slice (some ad) m c) (hm : N.length = m) (hN : ∀ j b : Nat, N[j]? = some b → w.cell? (ad.add j) = some (.int .u8 (b : Int))) (h63 : L.length + m ≤ 140737488355328) (hbase : B ≤ w.heap.size)
    (h : ∀ v' w', OB w' B v' (L ++ N) → w.grownBy w' v.ownBlock → (v ≠ .slice none 0 0 → v' ≠ .slice none 0 0) → (v'.ownBlock = v.ownBlock ∨ v'.ownBlock = some w.heap.size) → wpList Tryz.prog ops Q rest (a.put o.dst v') w') : wpList Tryz.prog ops Q (o :: rest) a w := by
  obtain ⟨i, hi, hz, hsz, hby⟩ := info_parts info5
  refine wpList_append_own_at w hgd s x 32 ho B 5 i _ 1 1 Tryz.underlying32 hi hz hsz hby rfl (by omega) v L.length (L.map fun b : Nat => Value.int .u8 (b : Int)) hs hown ad m c (N.map fun b : Nat => Value.int .u8 (b : Int)) hx (by simp [hm]) ?_ ?_ (by unfold maxLen; omega) (by omega) hbase ?_
  · intro j u hu
    rw [List.getElem?_map, Option.map_eq_some_iff] at hu
    obtain ⟨b, hb, rfl⟩ := hu
    exact hN j b hb
  · intro u hu
    obtain ⟨b, _, rfl⟩ := List.mem_map.1 hu
    rfl
  · intro v' w' h1 h2 h3 h4
    refine h v' w' ?_ h2 (fun hv hv' => hv (h3.1 hv').1) h4
    unfold OB
    rw [List.length_append, hm, List.map_append]; exact h1

theorem one_byteN (w : World) (e : Int) (b : Nat) (h : e = (b : Int)) : ∀ j c : Nat, [b][j]? = some c → (w.alloc (.cells #[.int .u8 e] 5)).cell? ((⟨w.heap.size, 0, none⟩ : Addr).add j) = some (.int .u8 (c : Int)) := by
  intro j c hj
  rcases j with _ | j
  · simp at hj
    subst hj
    simp [go_sem, h]
  · simp at hj
/-- append to a row that is full, whatever its mark: a new row. -/
theorem wpList_append_grown {w : World} {ops : Array Oper} {rest : List Oper} {o : Oper} {a : Act} {Q : Exit → Act → World → Prop} (hgd : o.guard = none) (s x : Operand)
    (ho : o.op = .call { callee := .builtin .append, args := #[s, x], argTypes := #[32, 32] }) (B g cap : Nat) (L : List Nat) (hs : a.eval s = .slice (some ⟨g, 0, none⟩) L.length cap) (holds : ∀ j b : Nat, L[j]? = some b → w.cell? ⟨g, j, none⟩ = some (.int .u8 (b : Int)))
    (ad : Addr) (m c : Nat) (N : List Nat) (hx : a.eval x = .slice (some ad) m c) (hm : N.length = m) (hN : ∀ j b : Nat, N[j]? = some b → w.cell? (ad.add j) = some (.int .u8 (b : Int))) (hfull : cap < L.length + m) (h63 : L.length + m ≤ 140737488355328) (hbase : B ≤ w.heap.size)
    (h : ∀ v' w', OB w' B v' (L ++ N) → w.grownBy w' none → wpList Tryz.prog ops Q rest (a.put o.dst v') w') : wpList Tryz.prog ops Q (o :: rest) a w := by
  obtain ⟨i, hi, hz, hsz, hby⟩ := info_parts info5
  refine wpList_plain hgd fun K hK => ?_
  have holds' : ∀ j u, (L.map fun b : Nat => Value.int .u8 (b : Int))[j]? = some u → w.cell? ((⟨g, 0, none⟩ : Addr).add j) = some u := by
    intro j u hu
    rw [List.getElem?_map, Option.map_eq_some_iff] at hu
    obtain ⟨b, hb, rfl⟩ := hu
    have hadd : (⟨g, 0, none⟩ : Addr).add j = ⟨g, j, none⟩ := by unfold Addr.add; split <;> simp_all
    rw [hadd]; exact holds j b hb
  have hnews' : ∀ j u, (N.map fun b : Nat => Value.int .u8 (b : Int))[j]? = some u → w.cell? (ad.add j) = some u := by
    intro j u hu
    rw [List.getElem?_map, Option.map_eq_some_iff] at hu
    obtain ⟨b, hb, rfl⟩ := hu
    exact hN j b hb
  have hr := run_append_grow (P := Tryz.prog) w 32 o.type 5 i (.int .u8 0) Tryz.underlying32 hi hz ⟨g, 0, none⟩ L.length cap (L.map fun b : Nat => Value.int .u8 (b : Int)) (by simp [hsz]) holds' ad m c (N.map fun b : Nat => Value.int .u8 (b : Int)) (by simp [hsz, hm]) hnews' hfull (by omega) (growslice_fits (by omega) (by rw [hby]; omega))
  unfold Oper.wp execOp
  simp only [ho, resolve, invoke, builtin, Sem.run_bind, Sem.run_pure, Result.andThen_ok, List.map_toArray, List.map_cons, List.map_nil, hs, hx, hr]
  have hge := grownCap_ge w (L.length + m) cap 5
  have hcm := grownCap_le_maxLen w (L.length + m) cap 5 (by unfold maxLen; omega)
  refine hK _ _ (h _ _ ?_ ⟨rfl, rfl, rfl, by simp, fun k hk _ => Below.heap_alloc w.drew _ k hk⟩)
  unfold OB
  rw [List.length_append, hm]
  refine ⟨by simp [hm], .inr ⟨w.heap.size, _, _, rfl, hbase, heap_alloc_new w.drew _, hge, hcm, ?_, ?_⟩⟩
  · simp only [Array.size_append, List.size_toArray, size_zeroCells, List.length_map, hm]
    show L.length + m + (grownCap w (L.length + m) cap 5 - (L.length + m)) * 1 = _
    omega
  · simp only [Array.toList_append, List.append_assoc, List.map_append]
    rw [← List.append_assoc]
    have : (L.length + m) * 1 = ((L.map fun b : Nat => Value.int .u8 (b : Int)) ++ (N.map fun b : Nat => Value.int .u8 (b : Int))).length := by simp [hm]
    rw [this]
    exact List.take_left
/-- A string's bytes, as numbers. -/
def bts (s : ByteArray) : List Nat := s.data.toList.map UInt8.toNat
theorem bts_len (s : ByteArray) : (bts s).length = s.size := by simp [bts]
theorem bts_cells (s : ByteArray) : ((bts s).map fun b : Nat => Value.int .u8 (b : Int)) = Lib.strCells s := by
  unfold bts Lib.strCells
  rw [List.map_map]; rfl
/-- append of a string, in a region whose order is drawn. -/
theorem step_append_str {w : World} {ops : Array Oper} {o : Oper} {a : Act} {K : Act → World → Prop} {Q : Exit → Act → World → Prop} {E : Prop} (hgd : o.guard = none) (sl x : Operand)
    (ho : o.op = .call { callee := .builtin .append, args := #[sl, x], argTypes := #[32, 9] }) (B : Nat) (v : Value) (L : List Nat) (hs : a.eval sl = v) (hown : OB w B v L) (s : ByteArray) (hx : a.eval x = .string s)
    (h63 : L.length + s.size ≤ 140737488355328) (hbase : B ≤ w.heap.size)
    (h : ∀ v' w', OB w' B v' (L ++ bts s) → w.grownBy w' v.ownBlock → K (a.put o.dst v') w') : if Region.wanted o (yielded ops a.tmps) = true then Oper.wp Tryz.prog o a w K Q else E := by
  have hw : Region.wanted o (yielded ops a.tmps) = true := by simp [Region.wanted, hgd]
  rw [if_pos hw]
  obtain ⟨i, hi, hz, hsz, hby⟩ := info_parts info5
  obtain ⟨v', w', hr, h2, h3, _⟩ := Lib.run_append_own_string (P := Tryz.prog) w B 32 9 o.type 5 i Tryz.underlying32 Tryz.underlying9 hi hz hsz hby v L.length _ hown s (by unfold maxLen; omega) (by omega) hbase
  unfold Oper.wp execOp
  simp only [ho, resolve, invoke, builtin, Sem.run_bind, Sem.run_pure, Result.andThen_ok, List.map_toArray, List.map_cons, List.map_nil, hs, hx, hr]
  refine h v' w' ?_ h3
  unfold OB
  rw [List.length_append, bts_len, List.map_append, bts_cells]; exact h2
/-- append of bytes in memory, in a region whose order is drawn. -/
theorem step_append_ob {w : World} {ops : Array Oper} {o : Oper} {a : Act} {K : Act → World → Prop} {Q : Exit → Act → World → Prop} {E : Prop} (hgd : o.guard = none) (s x : Operand)
    (ho : o.op = .call { callee := .builtin .append, args := #[s, x], argTypes := #[32, 32] }) (B : Nat) (v : Value) (L : List Nat) (hs : a.eval s = v) (hown : OB w B v L)
    (ad : Addr) (m c : Nat) (N : List Nat) (hx : a.eval x = .slice (some ad) m c) (hm : N.length = m) (hN : ∀ j b : Nat, N[j]? = some b → w.cell? (ad.add j) = some (.int .u8 (b : Int))) (h63 : L.length + m ≤ 140737488355328) (hbase : B ≤ w.heap.size)
    (h : ∀ v' w', OB w' B v' (L ++ N) → w.grownBy w' v.ownBlock → K (a.put o.dst v') w') : if Region.wanted o (yielded ops a.tmps) = true then Oper.wp Tryz.prog o a w K Q else E := by
  have hw : Region.wanted o (yielded ops a.tmps) = true := by simp [Region.wanted, hgd]
  rw [if_pos hw]
  obtain ⟨i, hi, hz, hsz, hby⟩ := info_parts info5
  obtain ⟨v', w', hr, h2, h3, _, _⟩ := run_append_own_at (P := Tryz.prog) w B 32 o.type 5 i _ 1 1 Tryz.underlying32 hi hz hsz hby rfl (by omega) v L.length (L.map fun b : Nat => Value.int .u8 (b : Int)) hown ad m c (N.map fun b : Nat => Value.int .u8 (b : Int)) (by simp [hm]) (fun j u hu => by
    rw [List.getElem?_map, Option.map_eq_some_iff] at hu
    obtain ⟨b, hb, rfl⟩ := hu
    exact hN j b hb) (fun u hu => by
    obtain ⟨b, _, rfl⟩ := List.mem_map.1 hu
    rfl) (by unfold maxLen; omega) (by omega) hbase
  unfold Oper.wp execOp
  simp only [ho, resolve, invoke, builtin, Sem.run_bind, Sem.run_pure, Result.andThen_ok, List.map_toArray, List.map_cons, List.map_nil, hs, hx, hr]
  refine h v' w' ?_ h3
  unfold OB
  rw [List.length_append, hm, List.map_append]; exact h2
/-- The string that owned bytes make. -/
theorem ob_string {w : World} {B : Nat} {v : Value} {L : List Nat} (h : OB w B v L) (h0 : L ≠ []) (h256 : ∀ b ∈ L, b < 256) : (convert 32 9 v).run Tryz.prog w = .ok (.string ⟨(L.map UInt8.ofNat).toArray⟩) w := by
  rcases h.form with ⟨_, h⟩ | ⟨g, cap, cur, rfl, _, _, _, hcell⟩
  · exact absurd h h0
  · have := run_convert_bytes_back (P := Tryz.prog) w 32 9 5 ⟨g, 0, none⟩ cap (L.map UInt8.ofNat) Tryz.underlying32 Tryz.underlying5 Tryz.underlying9 (fun j hj => by
      have hjl : j < L.length := by simpa using hj
      have hadd : (⟨g, 0, none⟩ : Addr).add j = ⟨g, j, none⟩ := by unfold Addr.add; split <;> simp_all
      rw [hadd, hcell j L[j] (List.getElem?_eq_getElem hjl), List.getElem_map, UInt8.toNat_ofNat', Nat.mod_eq_of_lt (h256 _ (List.getElem_mem hjl))])
    rw [List.length_map] at this
    exact this
end Go.Proofs.YtnghppgpdeghfaaGreatDoor
namespace Go.Proofs.YtnghppgpdeghfaaGreatDoor
open Go.RowKit Go.Proofs.YtnghppgpdeghfaaGreatDoor.Fl Go.Proofs.YtnghppgpdeghfaaGreatDoor.Pt Go.Proofs.YtnghppgpdeghfaaGreatDoor.Tx

theorem info22 : (Tryz.prog.info? 22).map (fun i => (i.zero, i.size, i.bytes)) = some (some (.complex .f64 0 0), 1, 16) := by kernel_rfl
/-- A slice value that owns its row of bytes. -/
def OZ (w : World) (B : Nat) (v : Value) (L : List (Nat × Nat)) : Prop := w.ownsRow B 22 1 v L.length (L.map fun b : Nat × Nat => Value.complex .f64 b.1 b.2)
theorem OZ.keep {w w' : World} {B : Nat} {v : Value} {L : List (Nat × Nat)} {qs : List Nat} (h : OZ w B v L) (k : But qs w w') (hb : ∀ g, v.ownBlock = some g → g ∉ qs) : OZ w' B v L := by
  obtain ⟨hl, h1⟩ := h
  refine ⟨hl, ?_⟩
  rcases h1 with h1 | ⟨g, cap, cur, rfl, hb', hg, r⟩
  · exact .inl h1
  · exact .inr ⟨g, cap, cur, rfl, hb', k.heap hg (hb g rfl), r⟩
theorem OZ.alloc {w : World} {B : Nat} {v : Value} {L : List (Nat × Nat)} (h : OZ w B v L) (o : Obj) : OZ (w.alloc o) B v L := h.keep ((But.refl [] w).alloc o) (by simp)
theorem OZ.block {w : World} {B : Nat} {v : Value} {L : List (Nat × Nat)} (h : OZ w B v L) : ∀ g, v.ownBlock = some g → B ≤ g := fun g hg => (World.ownsRow.lt h g hg).1
theorem OZ.form {w : World} {B : Nat} {v : Value} {L : List (Nat × Nat)} (h : OZ w B v L) : (v = .slice none 0 0 ∧ L = []) ∨ ∃ g cap cur, v = .slice (some ⟨g, 0, none⟩) L.length cap ∧ B ≤ g ∧ w.heap[g]? = some (.cells cur 22 (0, 0)) ∧ L.length ≤ cap ∧ ∀ (j : Nat) (b : Nat × Nat), L[j]? = some b → w.cell? ⟨g, j, none⟩ = some (.complex .f64 b.1 b.2) := by
  obtain ⟨hl, h1⟩ := h
  rcases h1 with ⟨h1, h2⟩ | ⟨g, cap, cur, rfl, hb, hg, hnc, _, hs, ht⟩
  · exact .inl ⟨h1, List.eq_nil_of_length_eq_zero h2⟩
  · refine .inr ⟨g, cap, cur, rfl, hb, hg, hnc, fun j b hj => ?_⟩
    have hjl := (List.getElem?_eq_some_iff.1 hj).1
    have h3 : (L.map fun b : Nat × Nat => Value.complex .f64 b.1 b.2)[j]? = some (.complex .f64 b.1 b.2) := by rw [List.getElem?_map, hj]; rfl
    rw [← ht, List.getElem?_take, if_pos (by omega)] at h3
    rw [cell_of_row w g j _ _ _ hg]
    simpa using h3
/-- append of bytes that lie in memory. -/
theorem wpList_append_oz {w : World} {ops : Array Oper} {rest : List Oper} {o : Oper} {a : Act} {Q : Exit → Act → World → Prop} (hgd : o.guard = none) (s x : Operand)
    (ho : o.op = .call { callee := .builtin .append, args := #[s, x], argTypes := #[33, 33] }) (B : Nat) (v : Value) (L : List (Nat × Nat)) (hs : a.eval s = v) (hown : OZ w B v L)
    (ad : Addr) (m c : Nat) (N : List (Nat × Nat)) (hx : a.eval x = .slice (some ad) m c) (hm : N.length = m) (hN : ∀ (j : Nat) (b : Nat × Nat), N[j]? = some b → w.cell? (ad.add j) = some (.complex .f64 b.1 b.2)) (h63 : L.length + m ≤ 1000) (hbase : B ≤ w.heap.size)
    (h : ∀ v' w', OZ w' B v' (L ++ N) → w.grownBy w' v.ownBlock → (v ≠ .slice none 0 0 → v' ≠ .slice none 0 0) → (v'.ownBlock = v.ownBlock ∨ v'.ownBlock = some w.heap.size) → wpList Tryz.prog ops Q rest (a.put o.dst v') w') : wpList Tryz.prog ops Q (o :: rest) a w := by
  obtain ⟨i, hi, hz, hsz, hby⟩ := info_parts info22
  refine wpList_append_own_at w hgd s x 33 ho B 22 i _ 1 16 Tryz.underlying33 hi hz hsz hby rfl (by omega) v L.length (L.map fun b : Nat × Nat => Value.complex .f64 b.1 b.2) hs hown ad m c (N.map fun b : Nat × Nat => Value.complex .f64 b.1 b.2) hx (by simp [hm]) ?_ ?_ (by unfold maxLen; omega) (by omega) hbase ?_
  · intro j u hu
    rw [List.getElem?_map, Option.map_eq_some_iff] at hu
    obtain ⟨b, hb, rfl⟩ := hu
    exact hN j b hb
  · intro u hu
    obtain ⟨b, _, rfl⟩ := List.mem_map.1 hu
    rfl
  · intro v' w' h1 h2 h3 h4
    refine h v' w' ?_ h2 (fun hv hv' => hv (h3.1 hv').1) h4
    unfold OZ
    rw [List.length_append, hm, List.map_append]; exact h1

theorem one_cplx (w : World) (x y : Nat) : ∀ (j : Nat) (b : Nat × Nat), [(x, y)][j]? = some b → (w.alloc (.cells #[.complex .f64 x y] 22)).cell? ((⟨w.heap.size, 0, none⟩ : Addr).add j) = some (.complex .f64 b.1 b.2) := by
  intro j b hj
  rcases j with _ | j
  · simp at hj
    subst hj
    simp [go_sem]
  · simp at hj

open Classical in
/-- How roots are read: n of them by now; the place, and the error (0: none). -/
noncomputable def ro (bar : Bool) (L : List UInt8) : Nat → Nat → Nat → Bool × Nat × Nat
  | 0, a, _ => (false, a, 0)
  | k + 1, a, n => if bar = false ∧ ¬ a < L.length then (true, a, 0) else
    match tk L [32] a with
    | (false, b) => (false, b, 12)
    | (true, b) => if bar = true ∧ L[b]? = some 124 then (true, b + 1, 0) else if L[b]? = some 40 ∧ n = 24 then (false, b, 2) else
      match nu L b with
      | (false, c) => (false, c, 12)
      | (true, c) => if FiN L b c then ro bar L k c (n + 1) else (false, b, 5)
section
variable {bar : Bool} {L : List UInt8} {k a b c n : Nat}
theorem ro_end (h : bar = false ∧ ¬ a < L.length) : ro bar L (k + 1) a n = (true, a, 0) := by rw [ro, if_pos h]
theorem ro_sp (h : ¬ (bar = false ∧ ¬ a < L.length)) (h1 : tk L [32] a = (false, b)) : ro bar L (k + 1) a n = (false, b, 12) := by rw [ro, if_neg h, h1]
theorem ro_bar (h : ¬ (bar = false ∧ ¬ a < L.length)) (h1 : tk L [32] a = (true, b)) (h2 : bar = true ∧ L[b]? = some 124) : ro bar L (k + 1) a n = (true, b + 1, 0) := by rw [ro, if_neg h, h1]; simp [h2]
theorem ro_full (h : ¬ (bar = false ∧ ¬ a < L.length)) (h1 : tk L [32] a = (true, b)) (h2 : ¬ (bar = true ∧ L[b]? = some 124)) (h3 : L[b]? = some 40 ∧ n = 24) : ro bar L (k + 1) a n = (false, b, 2) := by
  rw [ro, if_neg h, h1]; show (if _ then _ else _) = _; rw [if_neg h2, if_pos h3]
theorem ro_nu (h : ¬ (bar = false ∧ ¬ a < L.length)) (h1 : tk L [32] a = (true, b)) (h2 : ¬ (bar = true ∧ L[b]? = some 124)) (h3 : ¬ (L[b]? = some 40 ∧ n = 24)) (h4 : nu L b = (false, c)) : ro bar L (k + 1) a n = (false, c, 12) := by
  rw [ro, if_neg h, h1]; show (if _ then _ else _) = _; rw [if_neg h2, if_neg h3, h4]
theorem ro_nan (h : ¬ (bar = false ∧ ¬ a < L.length)) (h1 : tk L [32] a = (true, b)) (h2 : ¬ (bar = true ∧ L[b]? = some 124)) (h3 : ¬ (L[b]? = some 40 ∧ n = 24)) (h4 : nu L b = (true, c)) (h5 : ¬ FiN L b c) : ro bar L (k + 1) a n = (false, b, 5) := by
  rw [ro, if_neg h, h1]; show (if _ then _ else _) = _; rw [if_neg h2, if_neg h3, h4]; exact if_neg h5
theorem ro_next (h : ¬ (bar = false ∧ ¬ a < L.length)) (h1 : tk L [32] a = (true, b)) (h2 : ¬ (bar = true ∧ L[b]? = some 124)) (h3 : ¬ (L[b]? = some 40 ∧ n = 24)) (h4 : nu L b = (true, c)) (h5 : FiN L b c) : ro bar L (k + 1) a n = ro bar L k c (n + 1) := by
  rw [ro, if_neg h, h1]; show (if _ then _ else _) = _; rw [if_neg h2, if_neg h3, h4]; exact if_pos h5
end
/-- The texts of these numbers, a blank ahead of each, stand from a to c. -/
def lsT (l : List (Nat × Nat)) : List UInt8 := l.flatMap fun p => 32 :: num p.1 p.2
theorem lsT_snoc (l : List (Nat × Nat)) (p : Nat × Nat) : lsT (l ++ [p]) = lsT l ++ (32 :: num p.1 p.2) := by simp [lsT]
end Go.Proofs.YtnghppgpdeghfaaGreatDoor
