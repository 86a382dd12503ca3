/- The reader's float. -/
import Derived.Test.YtnghppgpdeghfaaGreatDoorA8
import Derived.Test.YtnghppgpdeghfaaGreatDoorA12
namespace Go.Proofs.YtnghppgpdeghfaaGreatDoor
open Go.RowKit Go.Proofs.YtnghppgpdeghfaaGreatDoor.Fl Go.Proofs.YtnghppgpdeghfaaGreatDoor.Pt Go.Proofs.YtnghppgpdeghfaaGreatDoor.Tx

theorem right_any (L : List UInt8) (hL : L.length ≤ 65536) (a b : Nat) (h : sf L a = (true, b)) (w : World) (hg : Gl w) : Calls Tryz.prog 62 #[.string (str ((L.drop a).take (b - a)))] w (RtP ((L.drop a).take (b - a)) w) := by
  rcases sf_is h with h | h | h | ⟨neg, M, bel, E, h, hM, hM0, _, _⟩
  · rw [h.piece]; exact right_n w
  · rw [h.piece]; exact right_i w
  · rw [h.piece]; exact right_m w
  · have hp := h.piece
    rw [hp]
    exact right_num neg M _ hM hM0 (by rw [← hp, List.length_take, List.length_drop]; omega) w hg
theorem sf_le {L : List UInt8} {a b : Nat} (h : sf L a = (true, b)) (ha : a ≤ L.length) : a ≤ b ∧ b ≤ L.length := ⟨by have := (sf_piece h).1; omega, (sf_piece h).le ha⟩
theorem fo_1 {e : UInt8} {L : List UInt8} {a b : Nat} (h : sf L a = (false, b)) : fo e L a = (false, b) := by unfold fo bd; rw [h]; rfl
theorem fo_2 {e : UInt8} {L : List UInt8} {a b c : Nat} (h : sf L a = (true, b)) (k : tk L [e] b = (false, c)) : fo e L a = (false, c) := by unfold fo bd; rw [h]; simp [k]
theorem fo_3 {e : UInt8} {L : List UInt8} {a b c : Nat} (h : sf L a = (true, b)) (k : tk L [e] b = (true, c)) (r : Rt ((L.drop a).take (b - a))) : fo e L a = (true, c) := by unfold fo bd; rw [h]; simp only [k, if_true]; rw [if_pos r]
theorem fo_4 {e : UInt8} {L : List UInt8} {a b c : Nat} (h : sf L a = (true, b)) (k : tk L [e] b = (true, c)) (r : ¬ Rt ((L.drop a).take (b - a))) : fo e L a = (false, a) := by unfold fo bd; rw [h]; simp only [k, if_true]; rw [if_neg r]
theorem sf_n {L : List UInt8} {a : Nat} (g : L[a]? = some 110) : sf L a = tk L [110, 97, 110] a := by rw [sf_sgn, if_pos g]
theorem sf_i {L : List UInt8} {a : Nat} (g0 : ¬ L[a]? = some 110) (g : L[a]? = some 105) : sf L a = tk L [105, 110, 102] a := by rw [sf_sgn, if_neg g0, if_pos g]
theorem sf_s {L : List UInt8} {a : Nat} (g0 : ¬ L[a]? = some 110) (g : ¬ L[a]? = some 105) : sf L a = sgn L a := by rw [sf_sgn, if_neg g0, if_neg g]
section
variable {R a b : Nat} {s : ByteArray} {w0 w : World}
theorem sgn_ok (hs : s.size ≤ 4294967280) (ha : a ≤ s.size) (h : Rdr w R s a) (hb : But [R] w0 w) (hk : sgn s.data.toList a = (true, b)) : Calls Tryz.prog 61 #[.pointer (some ⟨R, 0, none⟩)] w fun e w' => e = .returned (.tuple #[]) ∧ Rdr w' R s b ∧ But [R] w0 w' :=
  (rsigned_any R a s hs ha w h).mono fun e w' ⟨h1, h2⟩ => by
    rcases h2 with ⟨c, h3, h4, h5⟩ | ⟨c, h3, h4⟩
    · rw [hk] at h3; cases h3; exact ⟨h4, h5, hb.trans h1⟩
    · rw [hk] at h3; cases h3
theorem sgn_no (hs : s.size ≤ 4294967280) (ha : a ≤ s.size) (h : Rdr w R s a) (hb : But [R] w0 w) (hk : sgn s.data.toList a = (false, b)) : Calls Tryz.prog 61 #[.pointer (some ⟨R, 0, none⟩)] w fun e w' => e = Fa b 12 ∧ But [R] w0 w' :=
  (rsigned_any R a s hs ha w h).mono fun e w' ⟨h1, h2⟩ => by
    rcases h2 with ⟨c, h3, h4, h5⟩ | ⟨c, h3, h4⟩
    · rw [hk] at h3; cases h3
    · rw [hk] at h3; cases h3; exact ⟨h4, hb.trans h1⟩
end
theorem ext_eq (s : ByteArray) (a b : Nat) : s.extract a b = str ((s.data.toList.drop a).take (b - a)) := by
  apply ByteArray.ext
  rw [ByteArray.data_extract]
  unfold str
  apply Array.ext'
  simp [Array.toList_extract, List.extract_eq_take_drop]
section
variable {R a b c : Nat} {s : ByteArray} {w0 w : World}
theorem right_ok (hs : s.size ≤ 65536) (hR : 15 ≤ R) (hg : Gl w0) (h : Rdr w R s c) (hb : But [R] w0 w) (hk : sf s.data.toList a = (true, b)) (r : Rt ((s.data.toList.drop a).take (b - a))) : Calls Tryz.prog 62 #[.string (s.extract a b)] w fun e w' => ∃ x, e = .returned (.tuple #[.float .f64 x, .bool true]) ∧ (x < 18446744073709551616 ∧ fl x = (s.data.toList.drop a).take (b - a)) ∧ Rdr w' R s c ∧ But [R] w0 w' := by
  rw [ext_eq]
  refine (right_any s.data.toList (by simpa using hs) a b hk w (hg.keep hb (by simpa using hR))).mono ?_
  rintro e w' ⟨x, ok, he, hw, hx, h1, h2⟩
  cases ok with
  | true => exact ⟨x, he, ⟨hx, h1 rfl⟩, h.keep hw (by simp), hb.trans (hw.weak (by simp))⟩
  | false => exact absurd r (h2 rfl)
theorem right_no (hs : s.size ≤ 65536) (hR : 15 ≤ R) (hg : Gl w0) (h : Rdr w R s c) (hb : But [R] w0 w) (hk : sf s.data.toList a = (true, b)) (r : ¬ Rt ((s.data.toList.drop a).take (b - a))) : Calls Tryz.prog 62 #[.string (s.extract a b)] w fun e w' => ∃ x, e = .returned (.tuple #[.float .f64 x, .bool false]) ∧ Rdr w' R s c ∧ But [R] w0 w' := by
  rw [ext_eq]
  refine (right_any s.data.toList (by simpa using hs) a b hk w (hg.keep hb (by simpa using hR))).mono ?_
  rintro e w' ⟨x, ok, he, hw, hx, h1, h2⟩
  cases ok with
  | true => exact absurd ⟨x, hx, h1 rfl⟩ r
  | false => exact ⟨x, he, h.keep hw (by simp), hb.trans (hw.weak (by simp))⟩
end
/-- What the reader's float answers. -/
def FoP (R a : Nat) (s : ByteArray) (e : UInt8) (W : World) (en : Ending) (w' : World) : Prop := But [R] W w' ∧ ((∃ x b c, fo e s.data.toList a = (true, c) ∧ en = .returned (.float .f64 x) ∧ Rdr w' R s c ∧ x < 18446744073709551616 ∧ sf s.data.toList a = (true, b) ∧ tk s.data.toList [e] b = (true, c) ∧ fl x = (s.data.toList.drop a).take (b - a)) ∨ (∃ b, fo e s.data.toList a = (false, b) ∧ en = Fa b 12))

set_option linter.unusedSimpArgs false in
set_option maxRecDepth 100000 in
set_option maxHeartbeats 2000000 in
theorem float_no_n (R a : Nat) (s : ByteArray) (e0 : UInt8) (hs : s.size ≤ 65536) (ha : a ≤ s.size) (hR : 15 ≤ R) (W : World) (h : Rdr W R s a) (hg : Gl W) (g0 : s.data.toList[a]? = some 110) (b : Nat) (k : tk s.data.toList [110, 97, 110] a = (false, b)) : Calls Tryz.prog 48 #[.pointer (some ⟨R, 0, none⟩), .string (str [e0])] W (FoP R a s e0 W) := by
  have hb0 : But [R] W W := But.refl _ _
  have hl : s.data.toList.length = s.size := by simp
  obtain ⟨y0, y1, y2⟩ := Rdr.cells h
  have d0 := decide_eq_true g0
  have SF := (sf_n g0).trans k
  have HR := hR
  have HG := hg
  go_enter Tryz.func48, Tryz.ntmps48
  have tok : True := trivial
  go_wp2_with (go_at_call 32; have _t := tok; clear tok; refine (see_c (R := R) (a := a) (s := s) (w0 := W) 110 true (by assumption) (by assumption) (by assumption)).mono ?_; rintro e w1 ⟨rfl, hr, hb⟩)
  have tok : True := trivial
  go_wp2_with (go_at_call 28; have _t := tok; clear tok; refine (take_no (R := R) (a := a) (b := b) (s := s) (w0 := W) [110, 97, 110] (by decide) (by omega) (by omega) (by assumption) (by assumption) (by assumption)).mono ?_; rintro e w1 ⟨he, hb⟩; subst he; simp only [Fa])
  exact ⟨rfl, by assumption, .inr ⟨b, fo_1 SF, rfl⟩⟩

set_option linter.unusedSimpArgs false in
set_option maxRecDepth 100000 in
set_option maxHeartbeats 2000000 in
theorem float_ok_n (R a : Nat) (s : ByteArray) (e0 : UInt8) (hs : s.size ≤ 65536) (ha : a ≤ s.size) (hR : 15 ≤ R) (W : World) (h : Rdr W R s a) (hg : Gl W) (g0 : s.data.toList[a]? = some 110) (b : Nat) (k : tk s.data.toList [110, 97, 110] a = (true, b)) : Calls Tryz.prog 48 #[.pointer (some ⟨R, 0, none⟩), .string (str [e0])] W (FoP R a s e0 W) := by
  have hb0 : But [R] W W := But.refl _ _
  have hl : s.data.toList.length = s.size := by simp
  obtain ⟨y0, y1, y2⟩ := Rdr.cells h
  have d0 := decide_eq_true g0
  have SF := (sf_n g0).trans k
  have LE := sf_le SF (by omega)
  rcases pair (x := tk s.data.toList [e0] b) with ⟨c, k2⟩ | ⟨c, k2⟩
  · by_cases r : Rt ((s.data.toList.drop a).take (b - a))
    · have HF := Lib.hid (fo_3 SF k2 r)
      have HK := Lib.hid k2
      have HS := Lib.hid SF
      go_enter Tryz.func48, Tryz.ntmps48
      have tok : True := trivial
      go_wp2_with (go_at_call 32; have _t := tok; clear tok; refine (see_c (R := R) (a := a) (s := s) (w0 := W) 110 true (by assumption) (by assumption) (by assumption)).mono ?_; rintro e w1 ⟨rfl, hr, hb⟩)
      have tok : True := trivial
      go_wp2_with (go_at_call 28; have _t := tok; clear tok; refine (take_ok (R := R) (a := a) (b := b) (s := s) (w0 := W) [110, 97, 110] (by decide) (by omega) (by omega) (by assumption) (by assumption) (by assumption)).mono ?_; rintro e w1 ⟨rfl, hr, hb⟩)
      obtain ⟨z0, z1, z2⟩ := Rdr.cells hr
      go_quiet (fail)
      have hr2 := Rdr.keep hr ((But.refl [] _).drewN nq) (by simp)
      have hb2 := But.drewN hb nq
      have tok : True := trivial
      go_wp2_with (go_at_call 28; have _t := tok; clear tok; refine (take_ok (R := R) (a := b) (b := c) (s := s) (w0 := W) [e0] (by simp) (by omega) (by omega) (by assumption) (by assumption) (by assumption)).mono ?_; rintro e w1 ⟨rfl, hr, hb⟩)
      have tok : True := trivial
      go_wp2_with (go_at_call 62; have _t := tok; clear tok; refine (right_ok (R := R) (a := a) (b := b) (c := c) (s := s) (w0 := W) hs hR hg (by assumption) (by assumption) SF r).mono ?_; rintro e w1 ⟨x, rfl, ⟨hx, hf⟩, hr, hb⟩)
      go_ret
      exact ⟨by assumption, .inl ⟨x, b, c, HF.out, rfl, by assumption, hx, HS.out, HK.out, hf⟩⟩
    · have HF := Lib.hid (fo_4 SF k2 r)
      go_enter Tryz.func48, Tryz.ntmps48
      have tok : True := trivial
      go_wp2_with (go_at_call 32; have _t := tok; clear tok; refine (see_c (R := R) (a := a) (s := s) (w0 := W) 110 true (by assumption) (by assumption) (by assumption)).mono ?_; rintro e w1 ⟨rfl, hr, hb⟩)
      have tok : True := trivial
      go_wp2_with (go_at_call 28; have _t := tok; clear tok; refine (take_ok (R := R) (a := a) (b := b) (s := s) (w0 := W) [110, 97, 110] (by decide) (by omega) (by omega) (by assumption) (by assumption) (by assumption)).mono ?_; rintro e w1 ⟨rfl, hr, hb⟩)
      obtain ⟨z0, z1, z2⟩ := Rdr.cells hr
      go_quiet (fail)
      have hr2 := Rdr.keep hr ((But.refl [] _).drewN nq) (by simp)
      have hb2 := But.drewN hb nq
      have tok : True := trivial
      go_wp2_with (go_at_call 28; have _t := tok; clear tok; refine (take_ok (R := R) (a := b) (b := c) (s := s) (w0 := W) [e0] (by simp) (by omega) (by omega) (by assumption) (by assumption) (by assumption)).mono ?_; rintro e w1 ⟨rfl, hr, hb⟩)
      have tok : True := trivial
      go_wp2_with (go_at_call 62; have _t := tok; clear tok; refine (right_no (R := R) (a := a) (b := b) (c := c) (s := s) (w0 := W) hs hR hg (by assumption) (by assumption) SF r).mono ?_; rintro e w1 ⟨x, rfl, hr, hb⟩)
      exact ⟨rfl, by assumption, .inr ⟨a, HF.out, rfl⟩⟩
  · have HF := Lib.hid (fo_2 SF k2)
    go_enter Tryz.func48, Tryz.ntmps48
    have tok : True := trivial
    go_wp2_with (go_at_call 32; have _t := tok; clear tok; refine (see_c (R := R) (a := a) (s := s) (w0 := W) 110 true (by assumption) (by assumption) (by assumption)).mono ?_; rintro e w1 ⟨rfl, hr, hb⟩)
    have tok : True := trivial
    go_wp2_with (go_at_call 28; have _t := tok; clear tok; refine (take_ok (R := R) (a := a) (b := b) (s := s) (w0 := W) [110, 97, 110] (by decide) (by omega) (by omega) (by assumption) (by assumption) (by assumption)).mono ?_; rintro e w1 ⟨rfl, hr, hb⟩)
    obtain ⟨z0, z1, z2⟩ := Rdr.cells hr
    go_quiet (fail)
    have hr2 := Rdr.keep hr ((But.refl [] _).drewN nq) (by simp)
    have hb2 := But.drewN hb nq
    have tok : True := trivial
    go_wp2_with (go_at_call 28; have _t := tok; clear tok; refine (take_no (R := R) (a := b) (b := c) (s := s) (w0 := W) [e0] (by simp) (by omega) (by omega) (by assumption) (by assumption) (by assumption)).mono ?_; rintro e w1 ⟨he, hb⟩; subst he; simp only [Fa])
    exact ⟨rfl, by assumption, .inr ⟨c, HF.out, rfl⟩⟩

set_option linter.unusedSimpArgs false in
set_option maxRecDepth 100000 in
set_option maxHeartbeats 2000000 in
theorem float_no_i (R a : Nat) (s : ByteArray) (e0 : UInt8) (hs : s.size ≤ 65536) (ha : a ≤ s.size) (hR : 15 ≤ R) (W : World) (h : Rdr W R s a) (hg : Gl W) (g0 : ¬ s.data.toList[a]? = some 110) (g1 : s.data.toList[a]? = some 105) (b : Nat) (k : tk s.data.toList [105, 110, 102] a = (false, b)) : Calls Tryz.prog 48 #[.pointer (some ⟨R, 0, none⟩), .string (str [e0])] W (FoP R a s e0 W) := by
  have hb0 : But [R] W W := But.refl _ _
  have hl : s.data.toList.length = s.size := by simp
  obtain ⟨y0, y1, y2⟩ := Rdr.cells h
  have d0 := decide_eq_false g0
  have d1 := decide_eq_true g1
  have SF := (sf_i g0 g1).trans k
  have HR := hR
  have HG := hg
  go_enter Tryz.func48, Tryz.ntmps48
  have tok : True := trivial
  go_wp2_with (go_at_call 32; have _t := tok; clear tok; refine (see_c (R := R) (a := a) (s := s) (w0 := W) 110 false (by assumption) (by assumption) (by assumption)).mono ?_; rintro e w1 ⟨rfl, hr, hb⟩)
  have tok : True := trivial
  go_wp2_with (go_at_call 32; have _t := tok; clear tok; refine (see_c (R := R) (a := a) (s := s) (w0 := W) 105 true (by assumption) (by assumption) (by assumption)).mono ?_; rintro e w1 ⟨rfl, hr, hb⟩)
  have tok : True := trivial
  go_wp2_with (go_at_call 28; have _t := tok; clear tok; refine (take_no (R := R) (a := a) (b := b) (s := s) (w0 := W) [105, 110, 102] (by decide) (by omega) (by omega) (by assumption) (by assumption) (by assumption)).mono ?_; rintro e w1 ⟨he, hb⟩; subst he; simp only [Fa])
  exact ⟨rfl, by assumption, .inr ⟨b, fo_1 SF, rfl⟩⟩

set_option linter.unusedSimpArgs false in
set_option maxRecDepth 100000 in
set_option maxHeartbeats 2000000 in
theorem float_ok_i (R a : Nat) (s : ByteArray) (e0 : UInt8) (hs : s.size ≤ 65536) (ha : a ≤ s.size) (hR : 15 ≤ R) (W : World) (h : Rdr W R s a) (hg : Gl W) (g0 : ¬ s.data.toList[a]? = some 110) (g1 : s.data.toList[a]? = some 105) (b : Nat) (k : tk s.data.toList [105, 110, 102] a = (true, b)) : Calls Tryz.prog 48 #[.pointer (some ⟨R, 0, none⟩), .string (str [e0])] W (FoP R a s e0 W) := by
  have hb0 : But [R] W W := But.refl _ _
  have hl : s.data.toList.length = s.size := by simp
  obtain ⟨y0, y1, y2⟩ := Rdr.cells h
  have d0 := decide_eq_false g0
  have d1 := decide_eq_true g1
  have SF := (sf_i g0 g1).trans k
  have LE := sf_le SF (by omega)
  rcases pair (x := tk s.data.toList [e0] b) with ⟨c, k2⟩ | ⟨c, k2⟩
  · by_cases r : Rt ((s.data.toList.drop a).take (b - a))
    · have HF := Lib.hid (fo_3 SF k2 r)
      have HK := Lib.hid k2
      have HS := Lib.hid SF
      go_enter Tryz.func48, Tryz.ntmps48
      have tok : True := trivial
      go_wp2_with (go_at_call 32; have _t := tok; clear tok; refine (see_c (R := R) (a := a) (s := s) (w0 := W) 110 false (by assumption) (by assumption) (by assumption)).mono ?_; rintro e w1 ⟨rfl, hr, hb⟩)
      have tok : True := trivial
      go_wp2_with (go_at_call 32; have _t := tok; clear tok; refine (see_c (R := R) (a := a) (s := s) (w0 := W) 105 true (by assumption) (by assumption) (by assumption)).mono ?_; rintro e w1 ⟨rfl, hr, hb⟩)
      have tok : True := trivial
      go_wp2_with (go_at_call 28; have _t := tok; clear tok; refine (take_ok (R := R) (a := a) (b := b) (s := s) (w0 := W) [105, 110, 102] (by decide) (by omega) (by omega) (by assumption) (by assumption) (by assumption)).mono ?_; rintro e w1 ⟨rfl, hr, hb⟩)
      obtain ⟨z0, z1, z2⟩ := Rdr.cells hr
      go_quiet (fail)
      have hr2 := Rdr.keep hr ((But.refl [] _).drewN nq) (by simp)
      have hb2 := But.drewN hb nq
      have tok : True := trivial
      go_wp2_with (go_at_call 28; have _t := tok; clear tok; refine (take_ok (R := R) (a := b) (b := c) (s := s) (w0 := W) [e0] (by simp) (by omega) (by omega) (by assumption) (by assumption) (by assumption)).mono ?_; rintro e w1 ⟨rfl, hr, hb⟩)
      have tok : True := trivial
      go_wp2_with (go_at_call 62; have _t := tok; clear tok; refine (right_ok (R := R) (a := a) (b := b) (c := c) (s := s) (w0 := W) hs hR hg (by assumption) (by assumption) SF r).mono ?_; rintro e w1 ⟨x, rfl, ⟨hx, hf⟩, hr, hb⟩)
      go_ret
      exact ⟨by assumption, .inl ⟨x, b, c, HF.out, rfl, by assumption, hx, HS.out, HK.out, hf⟩⟩
    · have HF := Lib.hid (fo_4 SF k2 r)
      go_enter Tryz.func48, Tryz.ntmps48
      have tok : True := trivial
      go_wp2_with (go_at_call 32; have _t := tok; clear tok; refine (see_c (R := R) (a := a) (s := s) (w0 := W) 110 false (by assumption) (by assumption) (by assumption)).mono ?_; rintro e w1 ⟨rfl, hr, hb⟩)
      have tok : True := trivial
      go_wp2_with (go_at_call 32; have _t := tok; clear tok; refine (see_c (R := R) (a := a) (s := s) (w0 := W) 105 true (by assumption) (by assumption) (by assumption)).mono ?_; rintro e w1 ⟨rfl, hr, hb⟩)
      have tok : True := trivial
      go_wp2_with (go_at_call 28; have _t := tok; clear tok; refine (take_ok (R := R) (a := a) (b := b) (s := s) (w0 := W) [105, 110, 102] (by decide) (by omega) (by omega) (by assumption) (by assumption) (by assumption)).mono ?_; rintro e w1 ⟨rfl, hr, hb⟩)
      obtain ⟨z0, z1, z2⟩ := Rdr.cells hr
      go_quiet (fail)
      have hr2 := Rdr.keep hr ((But.refl [] _).drewN nq) (by simp)
      have hb2 := But.drewN hb nq
      have tok : True := trivial
      go_wp2_with (go_at_call 28; have _t := tok; clear tok; refine (take_ok (R := R) (a := b) (b := c) (s := s) (w0 := W) [e0] (by simp) (by omega) (by omega) (by assumption) (by assumption) (by assumption)).mono ?_; rintro e w1 ⟨rfl, hr, hb⟩)
      have tok : True := trivial
      go_wp2_with (go_at_call 62; have _t := tok; clear tok; refine (right_no (R := R) (a := a) (b := b) (c := c) (s := s) (w0 := W) hs hR hg (by assumption) (by assumption) SF r).mono ?_; rintro e w1 ⟨x, rfl, hr, hb⟩)
      exact ⟨rfl, by assumption, .inr ⟨a, HF.out, rfl⟩⟩
  · have HF := Lib.hid (fo_2 SF k2)
    go_enter Tryz.func48, Tryz.ntmps48
    have tok : True := trivial
    go_wp2_with (go_at_call 32; have _t := tok; clear tok; refine (see_c (R := R) (a := a) (s := s) (w0 := W) 110 false (by assumption) (by assumption) (by assumption)).mono ?_; rintro e w1 ⟨rfl, hr, hb⟩)
    have tok : True := trivial
    go_wp2_with (go_at_call 32; have _t := tok; clear tok; refine (see_c (R := R) (a := a) (s := s) (w0 := W) 105 true (by assumption) (by assumption) (by assumption)).mono ?_; rintro e w1 ⟨rfl, hr, hb⟩)
    have tok : True := trivial
    go_wp2_with (go_at_call 28; have _t := tok; clear tok; refine (take_ok (R := R) (a := a) (b := b) (s := s) (w0 := W) [105, 110, 102] (by decide) (by omega) (by omega) (by assumption) (by assumption) (by assumption)).mono ?_; rintro e w1 ⟨rfl, hr, hb⟩)
    obtain ⟨z0, z1, z2⟩ := Rdr.cells hr
    go_quiet (fail)
    have hr2 := Rdr.keep hr ((But.refl [] _).drewN nq) (by simp)
    have hb2 := But.drewN hb nq
    have tok : True := trivial
    go_wp2_with (go_at_call 28; have _t := tok; clear tok; refine (take_no (R := R) (a := b) (b := c) (s := s) (w0 := W) [e0] (by simp) (by omega) (by omega) (by assumption) (by assumption) (by assumption)).mono ?_; rintro e w1 ⟨he, hb⟩; subst he; simp only [Fa])
    exact ⟨rfl, by assumption, .inr ⟨c, HF.out, rfl⟩⟩

set_option linter.unusedSimpArgs false in
set_option maxRecDepth 100000 in
set_option maxHeartbeats 2000000 in
theorem float_no_s (R a : Nat) (s : ByteArray) (e0 : UInt8) (hs : s.size ≤ 65536) (ha : a ≤ s.size) (hR : 15 ≤ R) (W : World) (h : Rdr W R s a) (hg : Gl W) (g0 : ¬ s.data.toList[a]? = some 110) (g1 : ¬ s.data.toList[a]? = some 105) (b : Nat) (k : sgn s.data.toList a = (false, b)) : Calls Tryz.prog 48 #[.pointer (some ⟨R, 0, none⟩), .string (str [e0])] W (FoP R a s e0 W) := by
  have hb0 : But [R] W W := But.refl _ _
  have hl : s.data.toList.length = s.size := by simp
  obtain ⟨y0, y1, y2⟩ := Rdr.cells h
  have d0 := decide_eq_false g0
  have d1 := decide_eq_false g1
  have SF := (sf_s g0 g1).trans k
  have HR := hR
  have HG := hg
  go_enter Tryz.func48, Tryz.ntmps48
  have tok : True := trivial
  go_wp2_with (go_at_call 32; have _t := tok; clear tok; refine (see_c (R := R) (a := a) (s := s) (w0 := W) 110 false (by assumption) (by assumption) (by assumption)).mono ?_; rintro e w1 ⟨rfl, hr, hb⟩)
  have tok : True := trivial
  go_wp2_with (go_at_call 32; have _t := tok; clear tok; refine (see_c (R := R) (a := a) (s := s) (w0 := W) 105 false (by assumption) (by assumption) (by assumption)).mono ?_; rintro e w1 ⟨rfl, hr, hb⟩)
  have tok : True := trivial
  go_wp2_with (go_at_call 61; have _t := tok; clear tok; refine (sgn_no (R := R) (a := a) (b := b) (s := s) (w0 := W) (by omega) (by omega) (by assumption) (by assumption) (by assumption)).mono ?_; rintro e w1 ⟨he, hb⟩; subst he; simp only [Fa])
  exact ⟨rfl, by assumption, .inr ⟨b, fo_1 SF, rfl⟩⟩

set_option linter.unusedSimpArgs false in
set_option maxRecDepth 100000 in
set_option maxHeartbeats 2000000 in
theorem float_ok_s (R a : Nat) (s : ByteArray) (e0 : UInt8) (hs : s.size ≤ 65536) (ha : a ≤ s.size) (hR : 15 ≤ R) (W : World) (h : Rdr W R s a) (hg : Gl W) (g0 : ¬ s.data.toList[a]? = some 110) (g1 : ¬ s.data.toList[a]? = some 105) (b : Nat) (k : sgn s.data.toList a = (true, b)) : Calls Tryz.prog 48 #[.pointer (some ⟨R, 0, none⟩), .string (str [e0])] W (FoP R a s e0 W) := by
  have hb0 : But [R] W W := But.refl _ _
  have hl : s.data.toList.length = s.size := by simp
  obtain ⟨y0, y1, y2⟩ := Rdr.cells h
  have d0 := decide_eq_false g0
  have d1 := decide_eq_false g1
  have SF := (sf_s g0 g1).trans k
  have LE := sf_le SF (by omega)
  rcases pair (x := tk s.data.toList [e0] b) with ⟨c, k2⟩ | ⟨c, k2⟩
  · by_cases r : Rt ((s.data.toList.drop a).take (b - a))
    · have HF := Lib.hid (fo_3 SF k2 r)
      have HK := Lib.hid k2
      have HS := Lib.hid SF
      go_enter Tryz.func48, Tryz.ntmps48
      have tok : True := trivial
      go_wp2_with (go_at_call 32; have _t := tok; clear tok; refine (see_c (R := R) (a := a) (s := s) (w0 := W) 110 false (by assumption) (by assumption) (by assumption)).mono ?_; rintro e w1 ⟨rfl, hr, hb⟩)
      have tok : True := trivial
      go_wp2_with (go_at_call 32; have _t := tok; clear tok; refine (see_c (R := R) (a := a) (s := s) (w0 := W) 105 false (by assumption) (by assumption) (by assumption)).mono ?_; rintro e w1 ⟨rfl, hr, hb⟩)
      have tok : True := trivial
      go_wp2_with (go_at_call 61; have _t := tok; clear tok; refine (sgn_ok (R := R) (a := a) (b := b) (s := s) (w0 := W) (by omega) (by omega) (by assumption) (by assumption) (by assumption)).mono ?_; rintro e w1 ⟨rfl, hr, hb⟩)
      obtain ⟨z0, z1, z2⟩ := Rdr.cells hr
      go_quiet (fail)
      have hr2 := Rdr.keep hr ((But.refl [] _).drewN nq) (by simp)
      have hb2 := But.drewN hb nq
      have tok : True := trivial
      go_wp2_with (go_at_call 28; have _t := tok; clear tok; refine (take_ok (R := R) (a := b) (b := c) (s := s) (w0 := W) [e0] (by simp) (by omega) (by omega) (by assumption) (by assumption) (by assumption)).mono ?_; rintro e w1 ⟨rfl, hr, hb⟩)
      have tok : True := trivial
      go_wp2_with (go_at_call 62; have _t := tok; clear tok; refine (right_ok (R := R) (a := a) (b := b) (c := c) (s := s) (w0 := W) hs hR hg (by assumption) (by assumption) SF r).mono ?_; rintro e w1 ⟨x, rfl, ⟨hx, hf⟩, hr, hb⟩)
      go_ret
      exact ⟨by assumption, .inl ⟨x, b, c, HF.out, rfl, by assumption, hx, HS.out, HK.out, hf⟩⟩
    · have HF := Lib.hid (fo_4 SF k2 r)
      go_enter Tryz.func48, Tryz.ntmps48
      have tok : True := trivial
      go_wp2_with (go_at_call 32; have _t := tok; clear tok; refine (see_c (R := R) (a := a) (s := s) (w0 := W) 110 false (by assumption) (by assumption) (by assumption)).mono ?_; rintro e w1 ⟨rfl, hr, hb⟩)
      have tok : True := trivial
      go_wp2_with (go_at_call 32; have _t := tok; clear tok; refine (see_c (R := R) (a := a) (s := s) (w0 := W) 105 false (by assumption) (by assumption) (by assumption)).mono ?_; rintro e w1 ⟨rfl, hr, hb⟩)
      have tok : True := trivial
      go_wp2_with (go_at_call 61; have _t := tok; clear tok; refine (sgn_ok (R := R) (a := a) (b := b) (s := s) (w0 := W) (by omega) (by omega) (by assumption) (by assumption) (by assumption)).mono ?_; rintro e w1 ⟨rfl, hr, hb⟩)
      obtain ⟨z0, z1, z2⟩ := Rdr.cells hr
      go_quiet (fail)
      have hr2 := Rdr.keep hr ((But.refl [] _).drewN nq) (by simp)
      have hb2 := But.drewN hb nq
      have tok : True := trivial
      go_wp2_with (go_at_call 28; have _t := tok; clear tok; refine (take_ok (R := R) (a := b) (b := c) (s := s) (w0 := W) [e0] (by simp) (by omega) (by omega) (by assumption) (by assumption) (by assumption)).mono ?_; rintro e w1 ⟨rfl, hr, hb⟩)
      have tok : True := trivial
      go_wp2_with (go_at_call 62; have _t := tok; clear tok; refine (right_no (R := R) (a := a) (b := b) (c := c) (s := s) (w0 := W) hs hR hg (by assumption) (by assumption) SF r).mono ?_; rintro e w1 ⟨x, rfl, hr, hb⟩)
      exact ⟨rfl, by assumption, .inr ⟨a, HF.out, rfl⟩⟩
  · have HF := Lib.hid (fo_2 SF k2)
    go_enter Tryz.func48, Tryz.ntmps48
    have tok : True := trivial
    go_wp2_with (go_at_call 32; have _t := tok; clear tok; refine (see_c (R := R) (a := a) (s := s) (w0 := W) 110 false (by assumption) (by assumption) (by assumption)).mono ?_; rintro e w1 ⟨rfl, hr, hb⟩)
    have tok : True := trivial
    go_wp2_with (go_at_call 32; have _t := tok; clear tok; refine (see_c (R := R) (a := a) (s := s) (w0 := W) 105 false (by assumption) (by assumption) (by assumption)).mono ?_; rintro e w1 ⟨rfl, hr, hb⟩)
    have tok : True := trivial
    go_wp2_with (go_at_call 61; have _t := tok; clear tok; refine (sgn_ok (R := R) (a := a) (b := b) (s := s) (w0 := W) (by omega) (by omega) (by assumption) (by assumption) (by assumption)).mono ?_; rintro e w1 ⟨rfl, hr, hb⟩)
    obtain ⟨z0, z1, z2⟩ := Rdr.cells hr
    go_quiet (fail)
    have hr2 := Rdr.keep hr ((But.refl [] _).drewN nq) (by simp)
    have hb2 := But.drewN hb nq
    have tok : True := trivial
    go_wp2_with (go_at_call 28; have _t := tok; clear tok; refine (take_no (R := R) (a := b) (b := c) (s := s) (w0 := W) [e0] (by simp) (by omega) (by omega) (by assumption) (by assumption) (by assumption)).mono ?_; rintro e w1 ⟨he, hb⟩; subst he; simp only [Fa])
    exact ⟨rfl, by assumption, .inr ⟨c, HF.out, rfl⟩⟩

theorem rfloat_any (R a : Nat) (s : ByteArray) (e0 : UInt8) (hs : s.size ≤ 65536) (ha : a ≤ s.size) (hR : 15 ≤ R) (W : World) (h : Rdr W R s a) (hg : Gl W) : Calls Tryz.prog 48 #[.pointer (some ⟨R, 0, none⟩), .string (str [e0])] W (FoP R a s e0 W) := by
  by_cases g0 : s.data.toList[a]? = some 110
  · rcases pair (x := tk s.data.toList [110, 97, 110] a) with ⟨b, k⟩ | ⟨b, k⟩
    · exact float_ok_n R a s e0 hs ha hR W h hg g0 b k
    · exact float_no_n R a s e0 hs ha hR W h hg g0 b k
  by_cases g1 : s.data.toList[a]? = some 105
  · rcases pair (x := tk s.data.toList [105, 110, 102] a) with ⟨b, k⟩ | ⟨b, k⟩
    · exact float_ok_i R a s e0 hs ha hR W h hg g0 g1 b k
    · exact float_no_i R a s e0 hs ha hR W h hg g0 g1 b k
  · rcases pair (x := sgn s.data.toList a) with ⟨b, k⟩ | ⟨b, k⟩
    · exact float_ok_s R a s e0 hs ha hR W h hg g0 g1 b k
    · exact float_no_s R a s e0 hs ha hR W h hg g0 g1 b k

end Go.Proofs.YtnghppgpdeghfaaGreatDoor
