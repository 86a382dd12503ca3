/- The reader's float. The reader's number. The deferred closure of text.read: it recovers. The deferred closure of text.read where a fault is recovered. -/
import Derived.Test.YtnghppgpdeghfaaGreatDoorZf6
import Derived.Test.YtnghppgpdeghfaaGreatDoorZf7
import Derived.Defers
import Derived.Recover
import Derived.Deep.RegionHeld3
namespace Go.Proofs.YtnghppgpdeghfaaGreatDoor
open Go.RowKit Go.Proofs.YtnghppgpdeghfaaGreatDoor.Fl Go.Proofs.YtnghppgpdeghfaaGreatDoor.Pt Go.Proofs.YtnghppgpdeghfaaGreatDoor.Tx

theorem right_any (L : List UInt8) (hL : L.length ≤ 65536) (a b : Nat) (h : sf L a = (true, b)) (w : World) (hg : Gl w) : Calls Tryz.prog 62 #[.string (str ((L.drop a).take (b - a)))] w (RtP ((L.drop a).take (b - a)) w) := by
  rcases sf_is h with h | h | h | ⟨neg, M, bel, E, h, hM, hM0, _, _⟩
  · rw [h.piece]; exact right_n w
  · rw [h.piece]; exact right_i w
  · rw [h.piece]; exact right_m w
  · have hp := h.piece
    rw [hp]
    exact right_num neg M _ hM hM0 (by rw [← hp, List.length_take, List.length_drop]; omega) w hg
theorem sf_le {L : List UInt8} {a b : Nat} (h : sf L a = (true, b)) (ha : a ≤ L.length) : a ≤ b ∧ b ≤ L.length := ⟨by have := (sf_piece h).1; omega, (sf_piece h).le ha⟩
theorem fo_1 {e : UInt8} {L : List UInt8} {a b : Nat} (h : sf L a = (false, b)) : fo e L a = (false, b) := by unfold fo bd; rw [h]; rfl
theorem fo_2 {e : UInt8} {L : List UInt8} {a b c : Nat} (h : sf L a = (true, b)) (k : tk L [e] b = (false, c)) : fo e L a = (false, c) := by unfold fo bd; rw [h]; simp [k]
theorem fo_3 {e : UInt8} {L : List UInt8} {a b c : Nat} (h : sf L a = (true, b)) (k : tk L [e] b = (true, c)) (r : Rt ((L.drop a).take (b - a))) : fo e L a = (true, c) := by unfold fo bd; rw [h]; simp only [k, if_true]; rw [if_pos r]
theorem fo_4 {e : UInt8} {L : List UInt8} {a b c : Nat} (h : sf L a = (true, b)) (k : tk L [e] b = (true, c)) (r : ¬ Rt ((L.drop a).take (b - a))) : fo e L a = (false, a) := by unfold fo bd; rw [h]; simp only [k, if_true]; rw [if_neg r]
theorem sf_n {L : List UInt8} {a : Nat} (g : L[a]? = some 110) : sf L a = tk L [110, 97, 110] a := by rw [sf_sgn, if_pos g]
theorem sf_i {L : List UInt8} {a : Nat} (g0 : ¬ L[a]? = some 110) (g : L[a]? = some 105) : sf L a = tk L [105, 110, 102] a := by rw [sf_sgn, if_neg g0, if_pos g]
theorem sf_s {L : List UInt8} {a : Nat} (g0 : ¬ L[a]? = some 110) (g : ¬ L[a]? = some 105) : sf L a = sgn L a := by rw [sf_sgn, if_neg g0, if_neg g]
section
variable {R a b : Nat} {s : ByteArray} {w0 w : World}
theorem sgn_ok (hs : s.size ≤ 4294967280) (ha : a ≤ s.size) (h : Rdr w R s a) (hb : But [R] w0 w) (hk : sgn s.data.toList a = (true, b)) : Calls Tryz.prog 61 #[.pointer (some ⟨R, 0, none⟩)] w fun e w' => e = .returned (.tuple #[]) ∧ Rdr w' R s b ∧ But [R] w0 w' :=
  (rsigned_any R a s hs ha w h).mono fun e w' ⟨h1, h2⟩ => by
    rcases h2 with ⟨c, h3, h4, h5⟩ | ⟨c, h3, h4⟩
    · rw [hk] at h3; cases h3; exact ⟨h4, h5, hb.trans h1⟩
    · rw [hk] at h3; cases h3
theorem sgn_no (hs : s.size ≤ 4294967280) (ha : a ≤ s.size) (h : Rdr w R s a) (hb : But [R] w0 w) (hk : sgn s.data.toList a = (false, b)) : Calls Tryz.prog 61 #[.pointer (some ⟨R, 0, none⟩)] w fun e w' => e = Fa b 12 ∧ But [R] w0 w' :=
  (rsigned_any R a s hs ha w h).mono fun e w' ⟨h1, h2⟩ => by
    rcases h2 with ⟨c, h3, h4, h5⟩ | ⟨c, h3, h4⟩
    · rw [hk] at h3; cases h3
    · rw [hk] at h3; cases h3; exact ⟨h4, hb.trans h1⟩
end
theorem ext_eq (s : ByteArray) (a b : Nat) : s.extract a b = str ((s.data.toList.drop a).take (b - a)) := by
  apply ByteArray.ext
  rw [ByteArray.data_extract]
  unfold str
  apply Array.ext'
  simp [Array.toList_extract, List.extract_eq_take_drop]
section
variable {R a b c : Nat} {s : ByteArray} {w0 w : World}
theorem right_ok (hs : s.size ≤ 65536) (hR : 15 ≤ R) (hg : Gl w0) (h : Rdr w R s c) (hb : But [R] w0 w) (hk : sf s.data.toList a = (true, b)) (r : Rt ((s.data.toList.drop a).take (b - a))) : Calls Tryz.prog 62 #[.string (s.extract a b)] w fun e w' => ∃ x, e = .returned (.tuple #[.float .f64 x, .bool true]) ∧ (x < 18446744073709551616 ∧ fl x = (s.data.toList.drop a).take (b - a)) ∧ Rdr w' R s c ∧ But [R] w0 w' := by
  rw [ext_eq]
  refine (right_any s.data.toList (by simpa using hs) a b hk w (hg.keep hb (by simpa using hR))).mono ?_
  rintro e w' ⟨x, ok, he, hw, hx, h1, h2⟩
  cases ok with
  | true => exact ⟨x, he, ⟨hx, h1 rfl⟩, h.keep hw (by simp), hb.trans (hw.weak (by simp))⟩
  | false => exact absurd r (h2 rfl)
theorem right_no (hs : s.size ≤ 65536) (hR : 15 ≤ R) (hg : Gl w0) (h : Rdr w R s c) (hb : But [R] w0 w) (hk : sf s.data.toList a = (true, b)) (r : ¬ Rt ((s.data.toList.drop a).take (b - a))) : Calls Tryz.prog 62 #[.string (s.extract a b)] w fun e w' => ∃ x, e = .returned (.tuple #[.float .f64 x, .bool false]) ∧ Rdr w' R s c ∧ But [R] w0 w' := by
  rw [ext_eq]
  refine (right_any s.data.toList (by simpa using hs) a b hk w (hg.keep hb (by simpa using hR))).mono ?_
  rintro e w' ⟨x, ok, he, hw, hx, h1, h2⟩
  cases ok with
  | true => exact absurd ⟨x, hx, h1 rfl⟩ r
  | false => exact ⟨x, he, h.keep hw (by simp), hb.trans (hw.weak (by simp))⟩
end
/-- What the reader's float answers. -/
def FoP (R a : Nat) (s : ByteArray) (e : UInt8) (W : World) (en : Ending) (w' : World) : Prop := But [R] W w' ∧ ((∃ x b c, fo e s.data.toList a = (true, c) ∧ en = .returned (.float .f64 x) ∧ Rdr w' R s c ∧ x < 18446744073709551616 ∧ sf s.data.toList a = (true, b) ∧ tk s.data.toList [e] b = (true, c) ∧ fl x = (s.data.toList.drop a).take (b - a)) ∨ (∃ b, fo e s.data.toList a = (false, b) ∧ en = Fa b 12))

set_option linter.unusedSimpArgs false in
set_option maxRecDepth 100000 in
set_option maxHeartbeats 2000000 in
theorem float_no_n (R a : Nat) (s : ByteArray) (e0 : UInt8) (hs : s.size ≤ 65536) (ha : a ≤ s.size) (hR : 15 ≤ R) (W : World) (h : Rdr W R s a) (hg : Gl W) (g0 : s.data.toList[a]? = some 110) (b : Nat) (k : tk s.data.toList [110, 97, 110] a = (false, b)) : Calls Tryz.prog 48 #[.pointer (some ⟨R, 0, none⟩), .string (str [e0])] W (FoP R a s e0 W) := by
  have hb0 : But [R] W W := But.refl _ _
  have hl : s.data.toList.length = s.size := by simp
  obtain ⟨y0, y1, y2⟩ := Rdr.cells h
  have d0 := decide_eq_true g0
  have SF := (sf_n g0).trans k
  have HR := hR
  have HG := hg
  go_enter Tryz.func48, Tryz.ntmps48
  have tok : True := trivial
  go_wp2_with (go_at_call 32; have _t := tok; clear tok; refine (see_c (R := R) (a := a) (s := s) (w0 := W) 110 true (by assumption) (by assumption) (by assumption)).mono ?_; rintro e w1 ⟨rfl, hr, hb⟩)
  have tok : True := trivial
  go_wp2_with (go_at_call 28; have _t := tok; clear tok; refine (take_no (R := R) (a := a) (b := b) (s := s) (w0 := W) [110, 97, 110] (by decide) (by omega) (by omega) (by assumption) (by assumption) (by assumption)).mono ?_; rintro e w1 ⟨he, hb⟩; subst he; simp only [Fa])
  exact ⟨rfl, by assumption, .inr ⟨b, fo_1 SF, rfl⟩⟩

set_option linter.unusedSimpArgs false in
set_option maxRecDepth 100000 in
set_option maxHeartbeats 2000000 in
theorem float_ok_n (R a : Nat) (s : ByteArray) (e0 : UInt8) (hs : s.size ≤ 65536) (ha : a ≤ s.size) (hR : 15 ≤ R) (W : World) (h : Rdr W R s a) (hg : Gl W) (g0 : s.data.toList[a]? = some 110) (b : Nat) (k : tk s.data.toList [110, 97, 110] a = (true, b)) : Calls Tryz.prog 48 #[.pointer (some ⟨R, 0, none⟩), .string (str [e0])] W (FoP R a s e0 W) := by
  have hb0 : But [R] W W := But.refl _ _
  have hl : s.data.toList.length = s.size := by simp
  obtain ⟨y0, y1, y2⟩ := Rdr.cells h
  have d0 := decide_eq_true g0
  have SF := (sf_n g0).trans k
  have LE := sf_le SF (by omega)
  rcases pair (x := tk s.data.toList [e0] b) with ⟨c, k2⟩ | ⟨c, k2⟩
  · by_cases r : Rt ((s.data.toList.drop a).take (b - a))
    · have HF := Lib.hid (fo_3 SF k2 r)
      have HK := Lib.hid k2
      have HS := Lib.hid SF
      go_enter Tryz.func48, Tryz.ntmps48
      have tok : True := trivial
      go_wp2_with (go_at_call 32; have _t := tok; clear tok; refine (see_c (R := R) (a := a) (s := s) (w0 := W) 110 true (by assumption) (by assumption) (by assumption)).mono ?_; rintro e w1 ⟨rfl, hr, hb⟩)
      have tok : True := trivial
      go_wp2_with (go_at_call 28; have _t := tok; clear tok; refine (take_ok (R := R) (a := a) (b := b) (s := s) (w0 := W) [110, 97, 110] (by decide) (by omega) (by omega) (by assumption) (by assumption) (by assumption)).mono ?_; rintro e w1 ⟨rfl, hr, hb⟩)
      obtain ⟨z0, z1, z2⟩ := Rdr.cells hr
      go_quiet (fail)
      have hr2 := Rdr.keep hr ((But.refl [] _).drewN nq) (by simp)
      have hb2 := But.drewN hb nq
      have tok : True := trivial
      go_wp2_with (go_at_call 28; have _t := tok; clear tok; refine (take_ok (R := R) (a := b) (b := c) (s := s) (w0 := W) [e0] (by simp) (by omega) (by omega) (by assumption) (by assumption) (by assumption)).mono ?_; rintro e w1 ⟨rfl, hr, hb⟩)
      have tok : True := trivial
      go_wp2_with (go_at_call 62; have _t := tok; clear tok; refine (right_ok (R := R) (a := a) (b := b) (c := c) (s := s) (w0 := W) hs hR hg (by assumption) (by assumption) SF r).mono ?_; rintro e w1 ⟨x, rfl, ⟨hx, hf⟩, hr, hb⟩)
      go_ret
      exact ⟨by assumption, .inl ⟨x, b, c, HF.out, rfl, by assumption, hx, HS.out, HK.out, hf⟩⟩
    · have HF := Lib.hid (fo_4 SF k2 r)
      go_enter Tryz.func48, Tryz.ntmps48
      have tok : True := trivial
      go_wp2_with (go_at_call 32; have _t := tok; clear tok; refine (see_c (R := R) (a := a) (s := s) (w0 := W) 110 true (by assumption) (by assumption) (by assumption)).mono ?_; rintro e w1 ⟨rfl, hr, hb⟩)
      have tok : True := trivial
      go_wp2_with (go_at_call 28; have _t := tok; clear tok; refine (take_ok (R := R) (a := a) (b := b) (s := s) (w0 := W) [110, 97, 110] (by decide) (by omega) (by omega) (by assumption) (by assumption) (by assumption)).mono ?_; rintro e w1 ⟨rfl, hr, hb⟩)
      obtain ⟨z0, z1, z2⟩ := Rdr.cells hr
      go_quiet (fail)
      have hr2 := Rdr.keep hr ((But.refl [] _).drewN nq) (by simp)
      have hb2 := But.drewN hb nq
      have tok : True := trivial
      go_wp2_with (go_at_call 28; have _t := tok; clear tok; refine (take_ok (R := R) (a := b) (b := c) (s := s) (w0 := W) [e0] (by simp) (by omega) (by omega) (by assumption) (by assumption) (by assumption)).mono ?_; rintro e w1 ⟨rfl, hr, hb⟩)
      have tok : True := trivial
      go_wp2_with (go_at_call 62; have _t := tok; clear tok; refine (right_no (R := R) (a := a) (b := b) (c := c) (s := s) (w0 := W) hs hR hg (by assumption) (by assumption) SF r).mono ?_; rintro e w1 ⟨x, rfl, hr, hb⟩)
      exact ⟨rfl, by assumption, .inr ⟨a, HF.out, rfl⟩⟩
  · have HF := Lib.hid (fo_2 SF k2)
    go_enter Tryz.func48, Tryz.ntmps48
    have tok : True := trivial
    go_wp2_with (go_at_call 32; have _t := tok; clear tok; refine (see_c (R := R) (a := a) (s := s) (w0 := W) 110 true (by assumption) (by assumption) (by assumption)).mono ?_; rintro e w1 ⟨rfl, hr, hb⟩)
    have tok : True := trivial
    go_wp2_with (go_at_call 28; have _t := tok; clear tok; refine (take_ok (R := R) (a := a) (b := b) (s := s) (w0 := W) [110, 97, 110] (by decide) (by omega) (by omega) (by assumption) (by assumption) (by assumption)).mono ?_; rintro e w1 ⟨rfl, hr, hb⟩)
    obtain ⟨z0, z1, z2⟩ := Rdr.cells hr
    go_quiet (fail)
    have hr2 := Rdr.keep hr ((But.refl [] _).drewN nq) (by simp)
    have hb2 := But.drewN hb nq
    have tok : True := trivial
    go_wp2_with (go_at_call 28; have _t := tok; clear tok; refine (take_no (R := R) (a := b) (b := c) (s := s) (w0 := W) [e0] (by simp) (by omega) (by omega) (by assumption) (by assumption) (by assumption)).mono ?_; rintro e w1 ⟨he, hb⟩; subst he; simp only [Fa])
    exact ⟨rfl, by assumption, .inr ⟨c, HF.out, rfl⟩⟩

set_option linter.unusedSimpArgs false in
set_option maxRecDepth 100000 in
set_option maxHeartbeats 2000000 in
theorem float_no_i (R a : Nat) (s : ByteArray) (e0 : UInt8) (hs : s.size ≤ 65536) (ha : a ≤ s.size) (hR : 15 ≤ R) (W : World) (h : Rdr W R s a) (hg : Gl W) (g0 : ¬ s.data.toList[a]? = some 110) (g1 : s.data.toList[a]? = some 105) (b : Nat) (k : tk s.data.toList [105, 110, 102] a = (false, b)) : Calls Tryz.prog 48 #[.pointer (some ⟨R, 0, none⟩), .string (str [e0])] W (FoP R a s e0 W) := by
  have hb0 : But [R] W W := But.refl _ _
  have hl : s.data.toList.length = s.size := by simp
  obtain ⟨y0, y1, y2⟩ := Rdr.cells h
  have d0 := decide_eq_false g0
  have d1 := decide_eq_true g1
  have SF := (sf_i g0 g1).trans k
  have HR := hR
  have HG := hg
  go_enter Tryz.func48, Tryz.ntmps48
  have tok : True := trivial
  go_wp2_with (go_at_call 32; have _t := tok; clear tok; refine (see_c (R := R) (a := a) (s := s) (w0 := W) 110 false (by assumption) (by assumption) (by assumption)).mono ?_; rintro e w1 ⟨rfl, hr, hb⟩)
  have tok : True := trivial
  go_wp2_with (go_at_call 32; have _t := tok; clear tok; refine (see_c (R := R) (a := a) (s := s) (w0 := W) 105 true (by assumption) (by assumption) (by assumption)).mono ?_; rintro e w1 ⟨rfl, hr, hb⟩)
  have tok : True := trivial
  go_wp2_with (go_at_call 28; have _t := tok; clear tok; refine (take_no (R := R) (a := a) (b := b) (s := s) (w0 := W) [105, 110, 102] (by decide) (by omega) (by omega) (by assumption) (by assumption) (by assumption)).mono ?_; rintro e w1 ⟨he, hb⟩; subst he; simp only [Fa])
  exact ⟨rfl, by assumption, .inr ⟨b, fo_1 SF, rfl⟩⟩

set_option linter.unusedSimpArgs false in
set_option maxRecDepth 100000 in
set_option maxHeartbeats 2000000 in
theorem float_ok_i (R a : Nat) (s : ByteArray) (e0 : UInt8) (hs : s.size ≤ 65536) (ha : a ≤ s.size) (hR : 15 ≤ R) (W : World) (h : Rdr W R s a) (hg : Gl W) (g0 : ¬ s.data.toList[a]? = some 110) (g1 : s.data.toList[a]? = some 105) (b : Nat) (k : tk s.data.toList [105, 110, 102] a = (true, b)) : Calls Tryz.prog 48 #[.pointer (some ⟨R, 0, none⟩), .string (str [e0])] W (FoP R a s e0 W) := by
  have hb0 : But [R] W W := But.refl _ _
  have hl : s.data.toList.length = s.size := by simp
  obtain ⟨y0, y1, y2⟩ := Rdr.cells h
  have d0 := decide_eq_false g0
  have d1 := decide_eq_true g1
  have SF := (sf_i g0 g1).trans k
  have LE := sf_le SF (by omega)
  rcases pair (x := tk s.data.toList [e0] b) with ⟨c, k2⟩ | ⟨c, k2⟩
  · by_cases r : Rt ((s.data.toList.drop a).take (b - a))
    · have HF := Lib.hid (fo_3 SF k2 r)
      have HK := Lib.hid k2
      have HS := Lib.hid SF
      go_enter Tryz.func48, Tryz.ntmps48
      have tok : True := trivial
      go_wp2_with (go_at_call 32; have _t := tok; clear tok; refine (see_c (R := R) (a := a) (s := s) (w0 := W) 110 false (by assumption) (by assumption) (by assumption)).mono ?_; rintro e w1 ⟨rfl, hr, hb⟩)
      have tok : True := trivial
      go_wp2_with (go_at_call 32; have _t := tok; clear tok; refine (see_c (R := R) (a := a) (s := s) (w0 := W) 105 true (by assumption) (by assumption) (by assumption)).mono ?_; rintro e w1 ⟨rfl, hr, hb⟩)
      have tok : True := trivial
      go_wp2_with (go_at_call 28; have _t := tok; clear tok; refine (take_ok (R := R) (a := a) (b := b) (s := s) (w0 := W) [105, 110, 102] (by decide) (by omega) (by omega) (by assumption) (by assumption) (by assumption)).mono ?_; rintro e w1 ⟨rfl, hr, hb⟩)
      obtain ⟨z0, z1, z2⟩ := Rdr.cells hr
      go_quiet (fail)
      have hr2 := Rdr.keep hr ((But.refl [] _).drewN nq) (by simp)
      have hb2 := But.drewN hb nq
      have tok : True := trivial
      go_wp2_with (go_at_call 28; have _t := tok; clear tok; refine (take_ok (R := R) (a := b) (b := c) (s := s) (w0 := W) [e0] (by simp) (by omega) (by omega) (by assumption) (by assumption) (by assumption)).mono ?_; rintro e w1 ⟨rfl, hr, hb⟩)
      have tok : True := trivial
      go_wp2_with (go_at_call 62; have _t := tok; clear tok; refine (right_ok (R := R) (a := a) (b := b) (c := c) (s := s) (w0 := W) hs hR hg (by assumption) (by assumption) SF r).mono ?_; rintro e w1 ⟨x, rfl, ⟨hx, hf⟩, hr, hb⟩)
      go_ret
      exact ⟨by assumption, .inl ⟨x, b, c, HF.out, rfl, by assumption, hx, HS.out, HK.out, hf⟩⟩
    · have HF := Lib.hid (fo_4 SF k2 r)
      go_enter Tryz.func48, Tryz.ntmps48
      have tok : True := trivial
      go_wp2_with (go_at_call 32; have _t := tok; clear tok; refine (see_c (R := R) (a := a) (s := s) (w0 := W) 110 false (by assumption) (by assumption) (by assumption)).mono ?_; rintro e w1 ⟨rfl, hr, hb⟩)
      have tok : True := trivial
      go_wp2_with (go_at_call 32; have _t := tok; clear tok; refine (see_c (R := R) (a := a) (s := s) (w0 := W) 105 true (by assumption) (by assumption) (by assumption)).mono ?_; rintro e w1 ⟨rfl, hr, hb⟩)
      have tok : True := trivial
      go_wp2_with (go_at_call 28; have _t := tok; clear tok; refine (take_ok (R := R) (a := a) (b := b) (s := s) (w0 := W) [105, 110, 102] (by decide) (by omega) (by omega) (by assumption) (by assumption) (by assumption)).mono ?_; rintro e w1 ⟨rfl, hr, hb⟩)
      obtain ⟨z0, z1, z2⟩ := Rdr.cells hr
      go_quiet (fail)
      have hr2 := Rdr.keep hr ((But.refl [] _).drewN nq) (by simp)
      have hb2 := But.drewN hb nq
      have tok : True := trivial
      go_wp2_with (go_at_call 28; have _t := tok; clear tok; refine (take_ok (R := R) (a := b) (b := c) (s := s) (w0 := W) [e0] (by simp) (by omega) (by omega) (by assumption) (by assumption) (by assumption)).mono ?_; rintro e w1 ⟨rfl, hr, hb⟩)
      have tok : True := trivial
      go_wp2_with (go_at_call 62; have _t := tok; clear tok; refine (right_no (R := R) (a := a) (b := b) (c := c) (s := s) (w0 := W) hs hR hg (by assumption) (by assumption) SF r).mono ?_; rintro e w1 ⟨x, rfl, hr, hb⟩)
      exact ⟨rfl, by assumption, .inr ⟨a, HF.out, rfl⟩⟩
  · have HF := Lib.hid (fo_2 SF k2)
    go_enter Tryz.func48, Tryz.ntmps48
    have tok : True := trivial
    go_wp2_with (go_at_call 32; have _t := tok; clear tok; refine (see_c (R := R) (a := a) (s := s) (w0 := W) 110 false (by assumption) (by assumption) (by assumption)).mono ?_; rintro e w1 ⟨rfl, hr, hb⟩)
    have tok : True := trivial
    go_wp2_with (go_at_call 32; have _t := tok; clear tok; refine (see_c (R := R) (a := a) (s := s) (w0 := W) 105 true (by assumption) (by assumption) (by assumption)).mono ?_; rintro e w1 ⟨rfl, hr, hb⟩)
    have tok : True := trivial
    go_wp2_with (go_at_call 28; have _t := tok; clear tok; refine (take_ok (R := R) (a := a) (b := b) (s := s) (w0 := W) [105, 110, 102] (by decide) (by omega) (by omega) (by assumption) (by assumption) (by assumption)).mono ?_; rintro e w1 ⟨rfl, hr, hb⟩)
    obtain ⟨z0, z1, z2⟩ := Rdr.cells hr
    go_quiet (fail)
    have hr2 := Rdr.keep hr ((But.refl [] _).drewN nq) (by simp)
    have hb2 := But.drewN hb nq
    have tok : True := trivial
    go_wp2_with (go_at_call 28; have _t := tok; clear tok; refine (take_no (R := R) (a := b) (b := c) (s := s) (w0 := W) [e0] (by simp) (by omega) (by omega) (by assumption) (by assumption) (by assumption)).mono ?_; rintro e w1 ⟨he, hb⟩; subst he; simp only [Fa])
    exact ⟨rfl, by assumption, .inr ⟨c, HF.out, rfl⟩⟩

set_option linter.unusedSimpArgs false in
set_option maxRecDepth 100000 in
set_option maxHeartbeats 2000000 in
theorem float_no_s (R a : Nat) (s : ByteArray) (e0 : UInt8) (hs : s.size ≤ 65536) (ha : a ≤ s.size) (hR : 15 ≤ R) (W : World) (h : Rdr W R s a) (hg : Gl W) (g0 : ¬ s.data.toList[a]? = some 110) (g1 : ¬ s.data.toList[a]? = some 105) (b : Nat) (k : sgn s.data.toList a = (false, b)) : Calls Tryz.prog 48 #[.pointer (some ⟨R, 0, none⟩), .string (str [e0])] W (FoP R a s e0 W) := by
  have hb0 : But [R] W W := But.refl _ _
  have hl : s.data.toList.length = s.size := by simp
  obtain ⟨y0, y1, y2⟩ := Rdr.cells h
  have d0 := decide_eq_false g0
  have d1 := decide_eq_false g1
  have SF := (sf_s g0 g1).trans k
  have HR := hR
  have HG := hg
  go_enter Tryz.func48, Tryz.ntmps48
  have tok : True := trivial
  go_wp2_with (go_at_call 32; have _t := tok; clear tok; refine (see_c (R := R) (a := a) (s := s) (w0 := W) 110 false (by assumption) (by assumption) (by assumption)).mono ?_; rintro e w1 ⟨rfl, hr, hb⟩)
  have tok : True := trivial
  go_wp2_with (go_at_call 32; have _t := tok; clear tok; refine (see_c (R := R) (a := a) (s := s) (w0 := W) 105 false (by assumption) (by assumption) (by assumption)).mono ?_; rintro e w1 ⟨rfl, hr, hb⟩)
  have tok : True := trivial
  go_wp2_with (go_at_call 61; have _t := tok; clear tok; refine (sgn_no (R := R) (a := a) (b := b) (s := s) (w0 := W) (by omega) (by omega) (by assumption) (by assumption) (by assumption)).mono ?_; rintro e w1 ⟨he, hb⟩; subst he; simp only [Fa])
  exact ⟨rfl, by assumption, .inr ⟨b, fo_1 SF, rfl⟩⟩

set_option linter.unusedSimpArgs false in
set_option maxRecDepth 100000 in
set_option maxHeartbeats 2000000 in
theorem float_ok_s (R a : Nat) (s : ByteArray) (e0 : UInt8) (hs : s.size ≤ 65536) (ha : a ≤ s.size) (hR : 15 ≤ R) (W : World) (h : Rdr W R s a) (hg : Gl W) (g0 : ¬ s.data.toList[a]? = some 110) (g1 : ¬ s.data.toList[a]? = some 105) (b : Nat) (k : sgn s.data.toList a = (true, b)) : Calls Tryz.prog 48 #[.pointer (some ⟨R, 0, none⟩), .string (str [e0])] W (FoP R a s e0 W) := by
  have hb0 : But [R] W W := But.refl _ _
  have hl : s.data.toList.length = s.size := by simp
  obtain ⟨y0, y1, y2⟩ := Rdr.cells h
  have d0 := decide_eq_false g0
  have d1 := decide_eq_false g1
  have SF := (sf_s g0 g1).trans k
  have LE := sf_le SF (by omega)
  rcases pair (x := tk s.data.toList [e0] b) with ⟨c, k2⟩ | ⟨c, k2⟩
  · by_cases r : Rt ((s.data.toList.drop a).take (b - a))
    · have HF := Lib.hid (fo_3 SF k2 r)
      have HK := Lib.hid k2
      have HS := Lib.hid SF
      go_enter Tryz.func48, Tryz.ntmps48
      have tok : True := trivial
      go_wp2_with (go_at_call 32; have _t := tok; clear tok; refine (see_c (R := R) (a := a) (s := s) (w0 := W) 110 false (by assumption) (by assumption) (by assumption)).mono ?_; rintro e w1 ⟨rfl, hr, hb⟩)
      have tok : True := trivial
      go_wp2_with (go_at_call 32; have _t := tok; clear tok; refine (see_c (R := R) (a := a) (s := s) (w0 := W) 105 false (by assumption) (by assumption) (by assumption)).mono ?_; rintro e w1 ⟨rfl, hr, hb⟩)
      have tok : True := trivial
      go_wp2_with (go_at_call 61; have _t := tok; clear tok; refine (sgn_ok (R := R) (a := a) (b := b) (s := s) (w0 := W) (by omega) (by omega) (by assumption) (by assumption) (by assumption)).mono ?_; rintro e w1 ⟨rfl, hr, hb⟩)
      obtain ⟨z0, z1, z2⟩ := Rdr.cells hr
      go_quiet (fail)
      have hr2 := Rdr.keep hr ((But.refl [] _).drewN nq) (by simp)
      have hb2 := But.drewN hb nq
      have tok : True := trivial
      go_wp2_with (go_at_call 28; have _t := tok; clear tok; refine (take_ok (R := R) (a := b) (b := c) (s := s) (w0 := W) [e0] (by simp) (by omega) (by omega) (by assumption) (by assumption) (by assumption)).mono ?_; rintro e w1 ⟨rfl, hr, hb⟩)
      have tok : True := trivial
      go_wp2_with (go_at_call 62; have _t := tok; clear tok; refine (right_ok (R := R) (a := a) (b := b) (c := c) (s := s) (w0 := W) hs hR hg (by assumption) (by assumption) SF r).mono ?_; rintro e w1 ⟨x, rfl, ⟨hx, hf⟩, hr, hb⟩)
      go_ret
      exact ⟨by assumption, .inl ⟨x, b, c, HF.out, rfl, by assumption, hx, HS.out, HK.out, hf⟩⟩
    · have HF := Lib.hid (fo_4 SF k2 r)
      go_enter Tryz.func48, Tryz.ntmps48
      have tok : True := trivial
      go_wp2_with (go_at_call 32; have _t := tok; clear tok; refine (see_c (R := R) (a := a) (s := s) (w0 := W) 110 false (by assumption) (by assumption) (by assumption)).mono ?_; rintro e w1 ⟨rfl, hr, hb⟩)
      have tok : True := trivial
      go_wp2_with (go_at_call 32; have _t := tok; clear tok; refine (see_c (R := R) (a := a) (s := s) (w0 := W) 105 false (by assumption) (by assumption) (by assumption)).mono ?_; rintro e w1 ⟨rfl, hr, hb⟩)
      have tok : True := trivial
      go_wp2_with (go_at_call 61; have _t := tok; clear tok; refine (sgn_ok (R := R) (a := a) (b := b) (s := s) (w0 := W) (by omega) (by omega) (by assumption) (by assumption) (by assumption)).mono ?_; rintro e w1 ⟨rfl, hr, hb⟩)
      obtain ⟨z0, z1, z2⟩ := Rdr.cells hr
      go_quiet (fail)
      have hr2 := Rdr.keep hr ((But.refl [] _).drewN nq) (by simp)
      have hb2 := But.drewN hb nq
      have tok : True := trivial
      go_wp2_with (go_at_call 28; have _t := tok; clear tok; refine (take_ok (R := R) (a := b) (b := c) (s := s) (w0 := W) [e0] (by simp) (by omega) (by omega) (by assumption) (by assumption) (by assumption)).mono ?_; rintro e w1 ⟨rfl, hr, hb⟩)
      have tok : True := trivial
      go_wp2_with (go_at_call 62; have _t := tok; clear tok; refine (right_no (R := R) (a := a) (b := b) (c := c) (s := s) (w0 := W) hs hR hg (by assumption) (by assumption) SF r).mono ?_; rintro e w1 ⟨x, rfl, hr, hb⟩)
      exact ⟨rfl, by assumption, .inr ⟨a, HF.out, rfl⟩⟩
  · have HF := Lib.hid (fo_2 SF k2)
    go_enter Tryz.func48, Tryz.ntmps48
    have tok : True := trivial
    go_wp2_with (go_at_call 32; have _t := tok; clear tok; refine (see_c (R := R) (a := a) (s := s) (w0 := W) 110 false (by assumption) (by assumption) (by assumption)).mono ?_; rintro e w1 ⟨rfl, hr, hb⟩)
    have tok : True := trivial
    go_wp2_with (go_at_call 32; have _t := tok; clear tok; refine (see_c (R := R) (a := a) (s := s) (w0 := W) 105 false (by assumption) (by assumption) (by assumption)).mono ?_; rintro e w1 ⟨rfl, hr, hb⟩)
    have tok : True := trivial
    go_wp2_with (go_at_call 61; have _t := tok; clear tok; refine (sgn_ok (R := R) (a := a) (b := b) (s := s) (w0 := W) (by omega) (by omega) (by assumption) (by assumption) (by assumption)).mono ?_; rintro e w1 ⟨rfl, hr, hb⟩)
    obtain ⟨z0, z1, z2⟩ := Rdr.cells hr
    go_quiet (fail)
    have hr2 := Rdr.keep hr ((But.refl [] _).drewN nq) (by simp)
    have hb2 := But.drewN hb nq
    have tok : True := trivial
    go_wp2_with (go_at_call 28; have _t := tok; clear tok; refine (take_no (R := R) (a := b) (b := c) (s := s) (w0 := W) [e0] (by simp) (by omega) (by omega) (by assumption) (by assumption) (by assumption)).mono ?_; rintro e w1 ⟨he, hb⟩; subst he; simp only [Fa])
    exact ⟨rfl, by assumption, .inr ⟨c, HF.out, rfl⟩⟩

theorem rfloat_any (R a : Nat) (s : ByteArray) (e0 : UInt8) (hs : s.size ≤ 65536) (ha : a ≤ s.size) (hR : 15 ≤ R) (W : World) (h : Rdr W R s a) (hg : Gl W) : Calls Tryz.prog 48 #[.pointer (some ⟨R, 0, none⟩), .string (str [e0])] W (FoP R a s e0 W) := by
  by_cases g0 : s.data.toList[a]? = some 110
  · rcases pair (x := tk s.data.toList [110, 97, 110] a) with ⟨b, k⟩ | ⟨b, k⟩
    · exact float_ok_n R a s e0 hs ha hR W h hg g0 b k
    · exact float_no_n R a s e0 hs ha hR W h hg g0 b k
  by_cases g1 : s.data.toList[a]? = some 105
  · rcases pair (x := tk s.data.toList [105, 110, 102] a) with ⟨b, k⟩ | ⟨b, k⟩
    · exact float_ok_i R a s e0 hs ha hR W h hg g0 g1 b k
    · exact float_no_i R a s e0 hs ha hR W h hg g0 g1 b k
  · rcases pair (x := sgn s.data.toList a) with ⟨b, k⟩ | ⟨b, k⟩
    · exact float_ok_s R a s e0 hs ha hR W h hg g0 g1 b k
    · exact float_no_s R a s e0 hs ha hR W h hg g0 g1 b k

end Go.Proofs.YtnghppgpdeghfaaGreatDoor
namespace Go.Proofs.YtnghppgpdeghfaaGreatDoor
open Go.RowKit Go.Proofs.YtnghppgpdeghfaaGreatDoor.Fl Go.Proofs.YtnghppgpdeghfaaGreatDoor.Pt Go.Proofs.YtnghppgpdeghfaaGreatDoor.Tx

section
variable {R a c : Nat} {s : ByteArray} {w0 w : World}
theorem flo_ok (e0 : UInt8) (hs : s.size ≤ 65536) (ha : a ≤ s.size) (hR : 15 ≤ R) (hg : Gl w0) (h : Rdr w R s a) (hb : But [R] w0 w) (hk : fo e0 s.data.toList a = (true, c)) : Calls Tryz.prog 48 #[.pointer (some ⟨R, 0, none⟩), .string (str [e0])] w fun e w' => ∃ x, e = .returned (.float .f64 x) ∧ (x < 18446744073709551616 ∧ Is s.data.toList a (fl x ++ [e0]) c) ∧ Rdr w' R s c ∧ But [R] w0 w' := by
  refine (rfloat_any R a s e0 hs ha hR w h (hg.keep hb (by simpa using hR))).mono ?_
  rintro e w' ⟨h1, ⟨x, b, d, h2, h3, h4, h5, h6, h7, h8⟩ | ⟨b, h2, h3⟩⟩
  · rw [hk] at h2; cases h2
    exact ⟨x, h3, ⟨h5, (h8 ▸ sf_piece h6 : Is s.data.toList a (fl x) b).trans (tk_is _ _ _ _ h7)⟩, h4, hb.trans h1⟩
  · rw [hk] at h2; cases h2
theorem flo_no (e0 : UInt8) (hs : s.size ≤ 65536) (ha : a ≤ s.size) (hR : 15 ≤ R) (hg : Gl w0) (h : Rdr w R s a) (hb : But [R] w0 w) (hk : fo e0 s.data.toList a = (false, c)) : Calls Tryz.prog 48 #[.pointer (some ⟨R, 0, none⟩), .string (str [e0])] w fun e w' => e = Fa c 12 ∧ But [R] w0 w' := by
  refine (rfloat_any R a s e0 hs ha hR w h (hg.keep hb (by simpa using hR))).mono ?_
  rintro e w' ⟨h1, ⟨x, b, d, h2, h3, h4, h5, h6, h7, h8⟩ | ⟨b, h2, h3⟩⟩
  · rw [hk] at h2; cases h2
  · rw [hk] at h2; cases h2
    exact ⟨h3, hb.trans h1⟩
end
theorem fo_le {e : UInt8} {L : List UInt8} {a c : Nat} (h : fo e L a = (true, c)) (ha : a ≤ L.length) : c ≤ L.length := by
  obtain ⟨b, h1, h2, _⟩ := fo_true h
  exact tk_le h2 ((sf_piece h1).le ha)
/-- What the reader's number answers. -/
def NuP (R a : Nat) (s : ByteArray) (W : World) (en : Ending) (w' : World) : Prop := But [R] W w' ∧ ((∃ x y c, nu s.data.toList a = (true, c) ∧ en = .returned (.complex .f64 x y) ∧ Rdr w' R s c ∧ x < 18446744073709551616 ∧ y < 18446744073709551616 ∧ Is s.data.toList a (num x y) c) ∨ (∃ b, nu s.data.toList a = (false, b) ∧ en = Fa b 12))
theorem nu_1 {L : List UInt8} {a b : Nat} (k1 : tk L [40] a = (false, b)) : nu L a = (false, b) := by unfold nu bd; rw [k1]; rfl
theorem nu_2 {L : List UInt8} {a b c : Nat} (k1 : tk L [40] a = (true, b)) (k2 : fo 44 L b = (false, c)) : nu L a = (false, c) := by unfold nu bd; rw [k1]; simp [k2]
theorem nu_3 {L : List UInt8} {a b c : Nat} {d : Bool × Nat} (k1 : tk L [40] a = (true, b)) (k2 : fo 44 L b = (true, c)) (k3 : fo 41 L c = d) : nu L a = d := by unfold nu bd; rw [k1]; simp [k2, k3]
theorem nu_is {L : List UInt8} {a b c d x y : Nat} (k1 : tk L [40] a = (true, b)) (h1 : Is L b (fl x ++ [44]) c) (h2 : Is L c (fl y ++ [41]) d) : Is L a (num x y) d := by
  have := ((tk_is _ _ _ _ k1).trans h1).trans h2
  simpa [num] using this

set_option linter.unusedSimpArgs false in
set_option maxRecDepth 100000 in
set_option maxHeartbeats 2000000 in
theorem number_1 (R a : Nat) (s : ByteArray) (hs : s.size ≤ 65536) (ha : a ≤ s.size) (hR : 15 ≤ R) (W : World) (h : Rdr W R s a) (hg : Gl W) (b : Nat) (k1 : tk s.data.toList [40] a = (false, b)) : Calls Tryz.prog 22 #[.pointer (some ⟨R, 0, none⟩)] W (NuP R a s W) := by
  have hb0 : But [R] W W := But.refl _ _
  have hl : s.data.toList.length = s.size := by simp
  have HR := hR
  have HG := hg
  have HF := Lib.hid (nu_1 k1)
  go_enter Tryz.func22, Tryz.ntmps22
  have tok : True := trivial
  go_wp2_with (go_at_call 28; have _t := tok; clear tok; refine (take_no (R := R) (a := a) (b := b) (s := s) (w0 := W) [40] (by decide) (by omega) (by omega) (by assumption) (by assumption) (by assumption)).mono ?_; rintro e w1 ⟨he, hb⟩; subst he; simp only [Fa])
  exact ⟨rfl, by assumption, .inr ⟨b, HF.out, rfl⟩⟩

set_option linter.unusedSimpArgs false in
set_option maxRecDepth 100000 in
set_option maxHeartbeats 2000000 in
theorem number_2 (R a : Nat) (s : ByteArray) (hs : s.size ≤ 65536) (ha : a ≤ s.size) (hR : 15 ≤ R) (W : World) (h : Rdr W R s a) (hg : Gl W) (b : Nat) (k1 : tk s.data.toList [40] a = (true, b)) (c : Nat) (k2 : fo 44 s.data.toList b = (false, c)) : Calls Tryz.prog 22 #[.pointer (some ⟨R, 0, none⟩)] W (NuP R a s W) := by
  have hb0 : But [R] W W := But.refl _ _
  have hl : s.data.toList.length = s.size := by simp
  have HR := hR
  have HG := hg
  have l1 := tk_le k1 (by omega)
  have HF := Lib.hid (nu_2 k1 k2)
  go_enter Tryz.func22, Tryz.ntmps22
  have tok : True := trivial
  go_wp2_with (go_at_call 28; have _t := tok; clear tok; refine (take_ok (R := R) (a := a) (b := b) (s := s) (w0 := W) [40] (by decide) (by omega) (by omega) (by assumption) (by assumption) (by assumption)).mono ?_; rintro e w1 ⟨rfl, hr, hb⟩)
  have tok : True := trivial
  go_wp2_with (go_at_call 48; have _t := tok; clear tok; refine (flo_no (R := R) (a := b) (c := c) (s := s) (w0 := W) 44 hs (by omega) hR hg (by assumption) (by assumption) (by assumption)).mono ?_; rintro e w1 ⟨he, hb⟩; subst he; simp only [Fa])
  exact ⟨rfl, by assumption, .inr ⟨c, HF.out, rfl⟩⟩

set_option linter.unusedSimpArgs false in
set_option maxRecDepth 100000 in
set_option maxHeartbeats 2000000 in
theorem number_3 (R a : Nat) (s : ByteArray) (hs : s.size ≤ 65536) (ha : a ≤ s.size) (hR : 15 ≤ R) (W : World) (h : Rdr W R s a) (hg : Gl W) (b : Nat) (k1 : tk s.data.toList [40] a = (true, b)) (c : Nat) (k2 : fo 44 s.data.toList b = (true, c)) (d : Nat) (k3 : fo 41 s.data.toList c = (false, d)) : Calls Tryz.prog 22 #[.pointer (some ⟨R, 0, none⟩)] W (NuP R a s W) := by
  have hb0 : But [R] W W := But.refl _ _
  have hl : s.data.toList.length = s.size := by simp
  have HR := hR
  have HG := hg
  have l1 := tk_le k1 (by omega)
  have l2 := fo_le k2 (by omega)
  have HF := Lib.hid (nu_3 k1 k2 k3)
  go_enter Tryz.func22, Tryz.ntmps22
  have tok : True := trivial
  go_wp2_with (go_at_call 28; have _t := tok; clear tok; refine (take_ok (R := R) (a := a) (b := b) (s := s) (w0 := W) [40] (by decide) (by omega) (by omega) (by assumption) (by assumption) (by assumption)).mono ?_; rintro e w1 ⟨rfl, hr, hb⟩)
  have tok : True := trivial
  go_wp2_with (go_at_call 48; have _t := tok; clear tok; refine (flo_ok (R := R) (a := b) (c := c) (s := s) (w0 := W) 44 hs (by omega) hR hg (by assumption) (by assumption) (by assumption)).mono ?_; rintro e w1 ⟨x44, rfl, ⟨hx44, hi44⟩, hr, hb⟩)
  have tok : True := trivial
  go_wp2_with (go_at_call 48; have _t := tok; clear tok; refine (flo_no (R := R) (a := c) (c := d) (s := s) (w0 := W) 41 hs (by omega) hR hg (by assumption) (by assumption) (by assumption)).mono ?_; rintro e w1 ⟨he, hb⟩; subst he; simp only [Fa])
  exact ⟨rfl, by assumption, .inr ⟨d, HF.out, rfl⟩⟩

set_option linter.unusedSimpArgs false in
set_option maxRecDepth 100000 in
set_option maxHeartbeats 2000000 in
theorem number_4 (R a : Nat) (s : ByteArray) (hs : s.size ≤ 65536) (ha : a ≤ s.size) (hR : 15 ≤ R) (W : World) (h : Rdr W R s a) (hg : Gl W) (b : Nat) (k1 : tk s.data.toList [40] a = (true, b)) (c : Nat) (k2 : fo 44 s.data.toList b = (true, c)) (d : Nat) (k3 : fo 41 s.data.toList c = (true, d)) : Calls Tryz.prog 22 #[.pointer (some ⟨R, 0, none⟩)] W (NuP R a s W) := by
  have hb0 : But [R] W W := But.refl _ _
  have hl : s.data.toList.length = s.size := by simp
  have HR := hR
  have HG := hg
  have l1 := tk_le k1 (by omega)
  have l2 := fo_le k2 (by omega)
  have HF := Lib.hid (nu_3 k1 k2 k3)
  have HK := Lib.hid k1
  go_enter Tryz.func22, Tryz.ntmps22
  have tok : True := trivial
  go_wp2_with (go_at_call 28; have _t := tok; clear tok; refine (take_ok (R := R) (a := a) (b := b) (s := s) (w0 := W) [40] (by decide) (by omega) (by omega) (by assumption) (by assumption) (by assumption)).mono ?_; rintro e w1 ⟨rfl, hr, hb⟩)
  have tok : True := trivial
  go_wp2_with (go_at_call 48; have _t := tok; clear tok; refine (flo_ok (R := R) (a := b) (c := c) (s := s) (w0 := W) 44 hs (by omega) hR hg (by assumption) (by assumption) (by assumption)).mono ?_; rintro e w1 ⟨x44, rfl, ⟨hx44, hi44⟩, hr, hb⟩)
  have tok : True := trivial
  go_wp2_with (go_at_call 48; have _t := tok; clear tok; refine (flo_ok (R := R) (a := c) (c := d) (s := s) (w0 := W) 41 hs (by omega) hR hg (by assumption) (by assumption) (by assumption)).mono ?_; rintro e w1 ⟨x41, rfl, ⟨hx41, hi41⟩, hr, hb⟩)
  go_ret
  exact ⟨by assumption, .inl ⟨x44, x41, d, HF.out, rfl, by assumption, hx44, hx41, nu_is HK.out hi44 hi41⟩⟩

theorem number_any (R a : Nat) (s : ByteArray) (hs : s.size ≤ 65536) (ha : a ≤ s.size) (hR : 15 ≤ R) (W : World) (h : Rdr W R s a) (hg : Gl W) : Calls Tryz.prog 22 #[.pointer (some ⟨R, 0, none⟩)] W (NuP R a s W) := by
  rcases pair (x := tk s.data.toList [40] a) with ⟨b, k1⟩ | ⟨b, k1⟩
  · rcases pair (x := fo 44 s.data.toList b) with ⟨c, k2⟩ | ⟨c, k2⟩
    · rcases pair (x := fo 41 s.data.toList c) with ⟨d, k3⟩ | ⟨d, k3⟩
      · exact number_4 R a s hs ha hR W h hg b k1 c k2 d k3
      · exact number_3 R a s hs ha hR W h hg b k1 c k2 d k3
    · exact number_2 R a s hs ha hR W h hg b k1 c k2
  · exact number_1 R a s hs ha hR W h hg b k1

end Go.Proofs.YtnghppgpdeghfaaGreatDoor
namespace Go.Proofs.YtnghppgpdeghfaaGreatDoor
open Go.RowKit Go.Proofs.YtnghppgpdeghfaaGreatDoor.Fl Go.Proofs.YtnghppgpdeghfaaGreatDoor.Pt Go.Proofs.YtnghppgpdeghfaaGreatDoor.Tx

/-- A region whose first operation recovers; the rest is walked as any region. -/
theorem wpS_region_rec {P : Program} {Q : Exit → Act → List Frame → World → Prop} {a : Act} {cs : List Frame} {w w' : World} {id : Nat} (o : Oper) (l : List Oper) {v : Value} {cs' : List Frame}
    (hw : Region.wanted o (yielded (o :: l).toArray a.tmps) = true) (hr : (execOp a.eval o).run P w = .ok .recover w')
    (hc : (recoverD cs = some (v, cs')) ∨ (recoverD cs = none ∧ v = .nilIface ∧ cs' = cs))
    (h : wpList P (o :: l).toArray (fun e a w => Q e a cs' w) l (a.put o.dst v) w') : (Code.region id (o :: l).toArray false).wpS P Q a cs w := by
  intro b k hb hro
  have ho : (o :: l).toArray[0]? = some o := by simp
  have hg := stepG_op (P := P) (b := b) (a := a) (k := k) (cs := cs) (w := w) (rest := List.range' 1 l.length) ho hw
  have hfin : ∀ v, (b.at a (.inRegion (o :: l).toArray (0 :: List.range' 1 l.length) :: k)).finish v = b.at (a.put o.dst v) (.inRegion (o :: l).toArray (List.range' 1 l.length) :: k) := by
    intro v; rw [Frame.finish_at, ho]; rfl
  have hk : (b.at a (.inRegion (o :: l).toArray (0 :: List.range' 1 l.length) :: k)).kind = .deferred := hb
  have htr := tryRecover_deferred hk cs
  have hL : wpOps P (o :: l).toArray (fun e a w => Q e a cs' w) (List.range' 1 l.length) (a.put o.dst v) w' := by
    rw [wpOps_eq_wpList l 1 (fun j => by simp [Nat.add_comm 1 j])]; exact h
  obtain ⟨e, a', w'', hq, harr⟩ := wp_ops _ _ _ hL b k cs'
  have hrange : List.range (o :: l).toArray.size = 0 :: List.range' 1 l.length := by
    simp [List.range_eq_range', List.range'_succ]
  refine ⟨e, a', cs', w'', hq, .of_steps (.one step_region) (.of_steps (.one ?_) harr)⟩
  rw [hrange]
  refine step_lone_go ?_
  rw [hg, ← hfin]
  simp only [Frame.at] at htr ⊢
  rcases hc with hc | ⟨hc, rfl, rfl⟩
  · simp [stepG.apply, hr, htr, hc]
  · simp [stepG.apply, hr, htr, hc]
set_option maxRecDepth 100000 in
set_option maxHeartbeats 2000000 in
theorem catch_idle (A E : Nat) (w : World) :
    CallsD Tryz.prog 46 #[.pointer (some ⟨A, 0, none⟩), .pointer (some ⟨E, 0, none⟩)] .returning w fun e u' w' => e = .returned (.tuple #[]) ∧ u' = .returning ∧ But [] w w' := by
  have hta : ∀ w : World, (Instr.typeAssert Value.nilIface 20 73 true).run Tryz.prog w = .ok (.tuple #[.agg #[.int .i64 0, .int .i64 0], .bool false]) w := fun _ => rfl
  refine callsD_of_wpS Tryz.func46 rfl fun c₀ cs hu => ?_
  refine wpS_seq (wpS_region_rec _ _ rfl rfl (.inr ⟨by simp [recoverD, hu], rfl, rfl⟩) ?_)
  go_wp2_with fail
  refine wpS_of_wp ?_
  go_wp2_with fail
  refine ⟨rfl, .returning, by rw [← hu], .tuple #[], results_none rfl _ _ _, rfl, rfl, (But.refl _ _).alloc _⟩
end Go.Proofs.YtnghppgpdeghfaaGreatDoor
namespace Go.Proofs.YtnghppgpdeghfaaGreatDoor
open Go.RowKit Go.Proofs.YtnghppgpdeghfaaGreatDoor.Fl Go.Proofs.YtnghppgpdeghfaaGreatDoor.Pt Go.Proofs.YtnghppgpdeghfaaGreatDoor.Tx

abbrev FV (a c : Nat) : Value := .iface 73 (.agg #[.int .i64 (a : Int), .int .i64 (c : Int)])
theorem fv_assert (a c : Nat) (w : World) : (Instr.typeAssert (FV a c) 20 73 true).run Tryz.prog w = .ok (.tuple #[.agg #[.int .i64 (a : Int), .int .i64 (c : Int)], .bool true]) w := by first | kernel_rfl | simp [go_sem]
theorem fv_rec (a c : Nat) (older : List PanicEntry) (c₀ : Frame) (cs : List Frame) (hu : c₀.mode = .panicking ({ v := FV a c, recovered := false } :: older)) :
    recoverD (c₀ :: cs) = some (FV a c, { c₀ with mode := .panicking ({ v := FV a c, recovered := true } :: older) } :: cs) := by simp only [recoverD, hu]
set_option linter.unusedSimpArgs false in
set_option maxRecDepth 100000 in
set_option maxHeartbeats 4000000 in
theorem catch_panicking (A E : Nat) (a c : Nat) (older : List PanicEntry) (w : World) (hA : w.heap[A]? = some (.cells #[.int .i64 0] 3 (0, 0))) (hE : w.heap[E]? = some (.cells #[.int .i64 0] 23 (0, 0))) (hn : A ≠ E) :
    CallsD Tryz.prog 46 #[.pointer (some ⟨A, 0, none⟩), .pointer (some ⟨E, 0, none⟩)] (.panicking ({ v := FV a c, recovered := false } :: older)) w fun e u' w' =>
      e = .returned (.tuple #[]) ∧ u' = .panicking ({ v := FV a c, recovered := true } :: older) ∧ But [A, E] w w' ∧ w'.heap[A]? = some (.cells #[.int .i64 (a : Int)] 3 (0, 0)) ∧ w'.heap[E]? = some (.cells #[.int .i64 (c : Int)] 23 (0, 0)) := by
  refine callsD_of_wpS Tryz.func46 rfl fun c₀ cs hu => ?_
  show Code.wpS _ _ _ { tmps := #[.pointer (some ⟨A, 0, none⟩), .pointer (some ⟨E, 0, none⟩), undef, undef, undef, undef, undef, undef, undef, undef, undef, undef, undef, undef], defers := [] } _ _
  have hrec := fv_rec a c older c₀ cs hu
  obtain ⟨cs', hcs⟩ : ∃ x, x = ({ c₀ with mode := .panicking ({ v := FV a c, recovered := true } :: older) } :: cs) := ⟨_, rfl⟩
  rw [← hcs] at hrec
  refine wpS_seq ?_
  refine wpS_region_rec _ _ rfl rfl (.inl hrec) ?_
  have hta := fv_assert a c
  unfold FV at *
  clear hu
  go_wp2_with fail
  refine wpS_of_wp ?_
  go_wp2_with fail
  obtain ⟨F, hF⟩ : ∃ F, F = w.heap.size := ⟨_, rfl⟩
  have hAF : A < F := by rw [hF]; exact (Array.getElem?_eq_some_iff.1 hA).1
  have hEF : E < F := by rw [hF]; exact (Array.getElem?_eq_some_iff.1 hE).1
  have hFn : F ∉ [A, E] := by simp; omega
  obtain ⟨wb, hwb⟩ : ∃ x, x = w.alloc (.cells #[.int .i64 (a : Int), .int .i64 (c : Int)] 73) := ⟨_, rfl⟩
  have b0 : But [A, E] w wb := hwb ▸ (But.refl _ w).alloc _
  have b0' : But [] w wb := hwb ▸ (But.refl _ w).alloc _
  have bF : wb.heap[F]? = some (.cells #[.int .i64 (a : Int), .int .i64 (c : Int)] 73 (0, 0)) := by rw [hF, hwb]; show (w.heap.push _)[w.heap.size]? = _; exact Array.getElem?_push_size
  have bA := b0'.heap hA (by simp)
  have bE := b0'.heap hE (by simp)
  have f0 : wb.cell? ⟨F, 0, none⟩ = some (.int .i64 (a : Int)) := by rw [cell_of_row wb F 0 _ _ _ bF]; rfl
  have f1 : wb.cell? ⟨F, 1, none⟩ = some (.int .i64 (c : Int)) := by rw [cell_of_row wb F 1 _ _ _ bF]; rfl
  have a0 : wb.cell? ⟨A, 0, none⟩ = some (.int .i64 0) := by rw [cell_of_row wb A 0 _ _ _ bA]; rfl
  have e0 : wb.cell? ⟨E, 0, none⟩ = some (.int .i64 0) := by rw [cell_of_row wb E 0 _ _ _ bE]; rfl
  have a1 : wb.frozen? ⟨A, 0, none⟩ = false := blk_free bA
  have e1 : wb.frozen? ⟨E, 0, none⟩ = false := blk_free bE
  rw [← hwb, ← hF]
  clear hA hE hF hwb hta
  refine wp_region_noPanic ?_
  refine wp_region_held_drew (S := fun x => But [A, E] wb x ∧ x.cell? ⟨F, 0, none⟩ = some (.int .i64 (a : Int)) ∧ x.cell? ⟨F, 1, none⟩ = some (.int .i64 (c : Int))) (by kernel_rfl) ?_ (fun hHeld => ?_)
  · (try dsimp only); exact ⟨(But.refl _ _).drew, ((But.refl [] wb).drew).cell f0 (by simp), ((But.refl [] wb).drew).cell f1 (by simp)⟩
  (refine wpAnyH_take (i := 0) (oi := _) (v := _) rfl (by decide +kernel) (by decide +kernel) (by decide +kernel) (fun _ _ _ h => h) (Or.inl ⟨by rfl, by (intro w hSw; (try dsimp only at hSw); go_simp; try with_reducible rfl)⟩) (by assumption) ?_; (try simp only [Act.put, List.setIfInBounds_toArray, List.set_cons_zero, List.set_cons_succ, List.getElem_toArray, List.getElem_cons_succ, List.getElem_cons_zero]))
  (refine wpAnyH_take (i := 1) (oi := _) (v := _) rfl (by decide +kernel) (by decide +kernel) (by decide +kernel) (fun _ _ _ h => h) (Or.inl ⟨by rfl, by (intro w hSw; (try dsimp only at hSw); go_simp; try with_reducible rfl)⟩) (by assumption) ?_; (try simp only [Act.put, List.setIfInBounds_toArray, List.set_cons_zero, List.set_cons_succ, List.getElem_toArray, List.getElem_cons_succ, List.getElem_cons_zero]))
  (refine wpAnyH_take (i := 2) (oi := _) (v := _) rfl (by decide +kernel) (by decide +kernel) (by decide +kernel) (fun _ _ _ h => h) (Or.inl ⟨by rfl, by (intro w hSw; (try dsimp only at hSw); go_simp; try with_reducible rfl)⟩) (by assumption) ?_; (try simp only [Act.put, List.setIfInBounds_toArray, List.set_cons_zero, List.set_cons_succ, List.getElem_toArray, List.getElem_cons_succ, List.getElem_cons_zero]))
  (refine wpAnyH_take (i := 3) (oi := _) (v := _) rfl (by decide +kernel) (by decide +kernel) (by decide +kernel) (fun _ _ _ h => h) (Or.inl ⟨by rfl, by (intro w hSw; (try dsimp only at hSw); go_simp; try with_reducible rfl)⟩) (by assumption) ?_; (try simp only [Act.put, List.setIfInBounds_toArray, List.set_cons_zero, List.set_cons_succ, List.getElem_toArray, List.getElem_cons_succ, List.getElem_cons_zero]))
  refine wpAnyH_ready (rs := [4]) (by decide +kernel) (by simp) ?_
  refine AllReadyH.cons (o := _) rfl (fun K hK => ?_) AllReadyH.nil
  go_simp
  refine hK.out _ _ (by (try dsimp only); exact ⟨hHeld.1.setCell _ _ (.inl (by simp)), (hHeld.1.setCell _ _ (.inl (by simp))).cell f0 hFn, (hHeld.1.setCell _ _ (.inl (by simp))).cell f1 hFn⟩) (fun hNew => ?_); clear hK K; clear hHeld; have hHeld := hNew; clear hNew
  (try simp only [Act.put, List.setIfInBounds_toArray, List.set_cons_zero, List.set_cons_succ, List.getElem_toArray, List.getElem_cons_succ, List.getElem_cons_zero])
  refine wpAnyH_ready (rs := [5]) (by decide +kernel) (by simp) ?_
  refine AllReadyH.cons (o := _) rfl (fun K hK => ?_) AllReadyH.nil
  go_simp
  refine hK.out _ _ (by (try dsimp only); exact ⟨hHeld.1.setCell _ _ (.inl (by simp)), (hHeld.1.setCell _ _ (.inl (by simp))).cell f0 hFn, (hHeld.1.setCell _ _ (.inl (by simp))).cell f1 hFn⟩) (fun hNew => ?_); clear hK K; clear hHeld; have hHeld := hNew; clear hNew
  (try simp only [Act.put, List.setIfInBounds_toArray, List.set_cons_zero, List.set_cons_succ, List.getElem_toArray, List.getElem_cons_succ, List.getElem_cons_zero])
  refine wpAnyH_done (by decide +kernel) ?_ _
  refine NoPanic.normal ?_
  refine ⟨rfl, _, hcs, .tuple #[], results_none rfl _ _ _, rfl, rfl, b0.trans hHeld.1, ?_, ?_⟩
  · exact (Below.heap_setCell (wb.setCell ⟨A,0,none⟩ (.int .i64 (a:Int))) ⟨E,0,none⟩ (.int .i64 (c:Int)) A hn).trans (blk_set wb A 0 _ 3 _ bA)
  · exact blk_set (wb.setCell ⟨A,0,none⟩ (.int .i64 (a:Int))) E 0 _ 23 _ ((Below.heap_setCell wb ⟨A,0,none⟩ (.int .i64 (a:Int)) E (Ne.symm hn)).trans bE)
end Go.Proofs.YtnghppgpdeghfaaGreatDoor
