/- The reader's number. -/
import Derived.Test.YtnghppgpdeghfaaGreatDoorA13
namespace Go.Proofs.YtnghppgpdeghfaaGreatDoor
open Go.RowKit Go.Proofs.YtnghppgpdeghfaaGreatDoor.Fl Go.Proofs.YtnghppgpdeghfaaGreatDoor.Pt Go.Proofs.YtnghppgpdeghfaaGreatDoor.Tx

section
variable {R a c : Nat} {s : ByteArray} {w0 w : World}
theorem flo_ok (e0 : UInt8) (hs : s.size ≤ 65536) (ha : a ≤ s.size) (hR : 15 ≤ R) (hg : Gl w0) (h : Rdr w R s a) (hb : But [R] w0 w) (hk : fo e0 s.data.toList a = (true, c)) : Calls Tryz.prog 48 #[.pointer (some ⟨R, 0, none⟩), .string (str [e0])] w fun e w' => ∃ x, e = .returned (.float .f64 x) ∧ (x < 18446744073709551616 ∧ Is s.data.toList a (fl x ++ [e0]) c) ∧ Rdr w' R s c ∧ But [R] w0 w' := by
  refine (rfloat_any R a s e0 hs ha hR w h (hg.keep hb (by simpa using hR))).mono ?_
  rintro e w' ⟨h1, ⟨x, b, d, h2, h3, h4, h5, h6, h7, h8⟩ | ⟨b, h2, h3⟩⟩
  · rw [hk] at h2; cases h2
    exact ⟨x, h3, ⟨h5, (h8 ▸ sf_piece h6 : Is s.data.toList a (fl x) b).trans (tk_is _ _ _ _ h7)⟩, h4, hb.trans h1⟩
  · rw [hk] at h2; cases h2
theorem flo_no (e0 : UInt8) (hs : s.size ≤ 65536) (ha : a ≤ s.size) (hR : 15 ≤ R) (hg : Gl w0) (h : Rdr w R s a) (hb : But [R] w0 w) (hk : fo e0 s.data.toList a = (false, c)) : Calls Tryz.prog 48 #[.pointer (some ⟨R, 0, none⟩), .string (str [e0])] w fun e w' => e = Fa c 12 ∧ But [R] w0 w' := by
  refine (rfloat_any R a s e0 hs ha hR w h (hg.keep hb (by simpa using hR))).mono ?_
  rintro e w' ⟨h1, ⟨x, b, d, h2, h3, h4, h5, h6, h7, h8⟩ | ⟨b, h2, h3⟩⟩
  · rw [hk] at h2; cases h2
  · rw [hk] at h2; cases h2
    exact ⟨h3, hb.trans h1⟩
end
theorem fo_le {e : UInt8} {L : List UInt8} {a c : Nat} (h : fo e L a = (true, c)) (ha : a ≤ L.length) : c ≤ L.length := by
  obtain ⟨b, h1, h2, _⟩ := fo_true h
  exact tk_le h2 ((sf_piece h1).le ha)
/-- What the reader's number answers. -/
def NuP (R a : Nat) (s : ByteArray) (W : World) (en : Ending) (w' : World) : Prop := But [R] W w' ∧ ((∃ x y c, nu s.data.toList a = (true, c) ∧ en = .returned (.complex .f64 x y) ∧ Rdr w' R s c ∧ x < 18446744073709551616 ∧ y < 18446744073709551616 ∧ Is s.data.toList a (num x y) c) ∨ (∃ b, nu s.data.toList a = (false, b) ∧ en = Fa b 12))
theorem nu_1 {L : List UInt8} {a b : Nat} (k1 : tk L [40] a = (false, b)) : nu L a = (false, b) := by unfold nu bd; rw [k1]; rfl
theorem nu_2 {L : List UInt8} {a b c : Nat} (k1 : tk L [40] a = (true, b)) (k2 : fo 44 L b = (false, c)) : nu L a = (false, c) := by unfold nu bd; rw [k1]; simp [k2]
theorem nu_3 {L : List UInt8} {a b c : Nat} {d : Bool × Nat} (k1 : tk L [40] a = (true, b)) (k2 : fo 44 L b = (true, c)) (k3 : fo 41 L c = d) : nu L a = d := by unfold nu bd; rw [k1]; simp [k2, k3]
theorem nu_is {L : List UInt8} {a b c d x y : Nat} (k1 : tk L [40] a = (true, b)) (h1 : Is L b (fl x ++ [44]) c) (h2 : Is L c (fl y ++ [41]) d) : Is L a (num x y) d := by
  have := ((tk_is _ _ _ _ k1).trans h1).trans h2
  simpa [num] using this

set_option linter.unusedSimpArgs false in
set_option maxRecDepth 100000 in
set_option maxHeartbeats 2000000 in
theorem number_1 (R a : Nat) (s : ByteArray) (hs : s.size ≤ 65536) (ha : a ≤ s.size) (hR : 15 ≤ R) (W : World) (h : Rdr W R s a) (hg : Gl W) (b : Nat) (k1 : tk s.data.toList [40] a = (false, b)) : Calls Tryz.prog 22 #[.pointer (some ⟨R, 0, none⟩)] W (NuP R a s W) := by
  have hb0 : But [R] W W := But.refl _ _
  have hl : s.data.toList.length = s.size := by simp
  have HR := hR
  have HG := hg
  have HF := Lib.hid (nu_1 k1)
  go_enter Tryz.func22, Tryz.ntmps22
  have tok : True := trivial
  go_wp2_with (go_at_call 28; have _t := tok; clear tok; refine (take_no (R := R) (a := a) (b := b) (s := s) (w0 := W) [40] (by decide) (by omega) (by omega) (by assumption) (by assumption) (by assumption)).mono ?_; rintro e w1 ⟨he, hb⟩; subst he; simp only [Fa])
  exact ⟨rfl, by assumption, .inr ⟨b, HF.out, rfl⟩⟩

set_option linter.unusedSimpArgs false in
set_option maxRecDepth 100000 in
set_option maxHeartbeats 2000000 in
theorem number_2 (R a : Nat) (s : ByteArray) (hs : s.size ≤ 65536) (ha : a ≤ s.size) (hR : 15 ≤ R) (W : World) (h : Rdr W R s a) (hg : Gl W) (b : Nat) (k1 : tk s.data.toList [40] a = (true, b)) (c : Nat) (k2 : fo 44 s.data.toList b = (false, c)) : Calls Tryz.prog 22 #[.pointer (some ⟨R, 0, none⟩)] W (NuP R a s W) := by
  have hb0 : But [R] W W := But.refl _ _
  have hl : s.data.toList.length = s.size := by simp
  have HR := hR
  have HG := hg
  have l1 := tk_le k1 (by omega)
  have HF := Lib.hid (nu_2 k1 k2)
  go_enter Tryz.func22, Tryz.ntmps22
  have tok : True := trivial
  go_wp2_with (go_at_call 28; have _t := tok; clear tok; refine (take_ok (R := R) (a := a) (b := b) (s := s) (w0 := W) [40] (by decide) (by omega) (by omega) (by assumption) (by assumption) (by assumption)).mono ?_; rintro e w1 ⟨rfl, hr, hb⟩)
  have tok : True := trivial
  go_wp2_with (go_at_call 48; have _t := tok; clear tok; refine (flo_no (R := R) (a := b) (c := c) (s := s) (w0 := W) 44 hs (by omega) hR hg (by assumption) (by assumption) (by assumption)).mono ?_; rintro e w1 ⟨he, hb⟩; subst he; simp only [Fa])
  exact ⟨rfl, by assumption, .inr ⟨c, HF.out, rfl⟩⟩

set_option linter.unusedSimpArgs false in
set_option maxRecDepth 100000 in
set_option maxHeartbeats 2000000 in
theorem number_3 (R a : Nat) (s : ByteArray) (hs : s.size ≤ 65536) (ha : a ≤ s.size) (hR : 15 ≤ R) (W : World) (h : Rdr W R s a) (hg : Gl W) (b : Nat) (k1 : tk s.data.toList [40] a = (true, b)) (c : Nat) (k2 : fo 44 s.data.toList b = (true, c)) (d : Nat) (k3 : fo 41 s.data.toList c = (false, d)) : Calls Tryz.prog 22 #[.pointer (some ⟨R, 0, none⟩)] W (NuP R a s W) := by
  have hb0 : But [R] W W := But.refl _ _
  have hl : s.data.toList.length = s.size := by simp
  have HR := hR
  have HG := hg
  have l1 := tk_le k1 (by omega)
  have l2 := fo_le k2 (by omega)
  have HF := Lib.hid (nu_3 k1 k2 k3)
  go_enter Tryz.func22, Tryz.ntmps22
  have tok : True := trivial
  go_wp2_with (go_at_call 28; have _t := tok; clear tok; refine (take_ok (R := R) (a := a) (b := b) (s := s) (w0 := W) [40] (by decide) (by omega) (by omega) (by assumption) (by assumption) (by assumption)).mono ?_; rintro e w1 ⟨rfl, hr, hb⟩)
  have tok : True := trivial
  go_wp2_with (go_at_call 48; have _t := tok; clear tok; refine (flo_ok (R := R) (a := b) (c := c) (s := s) (w0 := W) 44 hs (by omega) hR hg (by assumption) (by assumption) (by assumption)).mono ?_; rintro e w1 ⟨x44, rfl, ⟨hx44, hi44⟩, hr, hb⟩)
  have tok : True := trivial
  go_wp2_with (go_at_call 48; have _t := tok; clear tok; refine (flo_no (R := R) (a := c) (c := d) (s := s) (w0 := W) 41 hs (by omega) hR hg (by assumption) (by assumption) (by assumption)).mono ?_; rintro e w1 ⟨he, hb⟩; subst he; simp only [Fa])
  exact ⟨rfl, by assumption, .inr ⟨d, HF.out, rfl⟩⟩

set_option linter.unusedSimpArgs false in
set_option maxRecDepth 100000 in
set_option maxHeartbeats 2000000 in
theorem number_4 (R a : Nat) (s : ByteArray) (hs : s.size ≤ 65536) (ha : a ≤ s.size) (hR : 15 ≤ R) (W : World) (h : Rdr W R s a) (hg : Gl W) (b : Nat) (k1 : tk s.data.toList [40] a = (true, b)) (c : Nat) (k2 : fo 44 s.data.toList b = (true, c)) (d : Nat) (k3 : fo 41 s.data.toList c = (true, d)) : Calls Tryz.prog 22 #[.pointer (some ⟨R, 0, none⟩)] W (NuP R a s W) := by
  have hb0 : But [R] W W := But.refl _ _
  have hl : s.data.toList.length = s.size := by simp
  have HR := hR
  have HG := hg
  have l1 := tk_le k1 (by omega)
  have l2 := fo_le k2 (by omega)
  have HF := Lib.hid (nu_3 k1 k2 k3)
  have HK := Lib.hid k1
  go_enter Tryz.func22, Tryz.ntmps22
  have tok : True := trivial
  go_wp2_with (go_at_call 28; have _t := tok; clear tok; refine (take_ok (R := R) (a := a) (b := b) (s := s) (w0 := W) [40] (by decide) (by omega) (by omega) (by assumption) (by assumption) (by assumption)).mono ?_; rintro e w1 ⟨rfl, hr, hb⟩)
  have tok : True := trivial
  go_wp2_with (go_at_call 48; have _t := tok; clear tok; refine (flo_ok (R := R) (a := b) (c := c) (s := s) (w0 := W) 44 hs (by omega) hR hg (by assumption) (by assumption) (by assumption)).mono ?_; rintro e w1 ⟨x44, rfl, ⟨hx44, hi44⟩, hr, hb⟩)
  have tok : True := trivial
  go_wp2_with (go_at_call 48; have _t := tok; clear tok; refine (flo_ok (R := R) (a := c) (c := d) (s := s) (w0 := W) 41 hs (by omega) hR hg (by assumption) (by assumption) (by assumption)).mono ?_; rintro e w1 ⟨x41, rfl, ⟨hx41, hi41⟩, hr, hb⟩)
  go_ret
  exact ⟨by assumption, .inl ⟨x44, x41, d, HF.out, rfl, by assumption, hx44, hx41, nu_is HK.out hi44 hi41⟩⟩

theorem number_any (R a : Nat) (s : ByteArray) (hs : s.size ≤ 65536) (ha : a ≤ s.size) (hR : 15 ≤ R) (W : World) (h : Rdr W R s a) (hg : Gl W) : Calls Tryz.prog 22 #[.pointer (some ⟨R, 0, none⟩)] W (NuP R a s W) := by
  rcases pair (x := tk s.data.toList [40] a) with ⟨b, k1⟩ | ⟨b, k1⟩
  · rcases pair (x := fo 44 s.data.toList b) with ⟨c, k2⟩ | ⟨c, k2⟩
    · rcases pair (x := fo 41 s.data.toList c) with ⟨d, k3⟩ | ⟨d, k3⟩
      · exact number_4 R a s hs ha hR W h hg b k1 c k2 d k3
      · exact number_3 R a s hs ha hR W h hg b k1 c k2 d k3
    · exact number_2 R a s hs ha hR W h hg b k1 c k2
  · exact number_1 R a s hs ha hR W h hg b k1

end Go.Proofs.YtnghppgpdeghfaaGreatDoor
