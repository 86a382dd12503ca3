/- The reader's steps: a float's sign and digits; the end. -/
import Derived.Test.YtnghppgpdeghfaaGreatDoorZf5
namespace Go.Proofs.YtnghppgpdeghfaaGreatDoor
open Go.RowKit Go.Proofs.YtnghppgpdeghfaaGreatDoor.Fl Go.Proofs.YtnghppgpdeghfaaGreatDoor.Pt Go.Proofs.YtnghppgpdeghfaaGreatDoor.Tx

section
variable {R a b : Nat} {s : ByteArray} {w0 w : World}
theorem take_ok (t : List UInt8) (ht : t.length ≤ 100) (hs : s.size ≤ 4294967280) (ha : a ≤ s.size) (h : Rdr w R s a) (hb : But [R] w0 w) (hk : tk s.data.toList t a = (true, b)) : Calls Tryz.prog 28 #[.pointer (some ⟨R, 0, none⟩), .string (str t)] w fun e w' => e = .returned (.tuple #[]) ∧ Rdr w' R s b ∧ But [R] w0 w' :=
  (take_any R a s t ht hs ha w h).mono fun e w' ⟨h1, h2⟩ => by
    rcases h2 with ⟨c, h3, h4, h5⟩ | ⟨c, h3, h4⟩
    · rw [hk] at h3; cases h3; exact ⟨h4, h5, hb.trans h1⟩
    · rw [hk] at h3; cases h3
theorem take_no (t : List UInt8) (ht : t.length ≤ 100) (hs : s.size ≤ 4294967280) (ha : a ≤ s.size) (h : Rdr w R s a) (hb : But [R] w0 w) (hk : tk s.data.toList t a = (false, b)) : Calls Tryz.prog 28 #[.pointer (some ⟨R, 0, none⟩), .string (str t)] w fun e w' => e = Fa b 12 ∧ But [R] w0 w' :=
  (take_any R a s t ht hs ha w h).mono fun e w' ⟨h1, h2⟩ => by
    rcases h2 with ⟨c, h3, h4, h5⟩ | ⟨c, h3, h4⟩
    · rw [hk] at h3; cases h3
    · rw [hk] at h3; cases h3; exact ⟨h4, hb.trans h1⟩
theorem dig_ok (p : UInt8 → Bool) (of : List UInt8) (hof : ∀ c : UInt8, decide (Lib.indexByte of c < 0) = !p c) (hs : s.size ≤ 4294967280) (ha : a ≤ s.size) (h : Rdr w R s a) (hb : But [R] w0 w) (hk : dg p s.data.toList a = (true, b)) : Calls Tryz.prog 70 #[.pointer (some ⟨R, 0, none⟩), .string (str of)] w fun e w' => e = .returned (.tuple #[]) ∧ Rdr w' R s b ∧ But [R] w0 w' :=
  (digits_any p of hof R a s hs ha w h).mono fun e w' ⟨h1, h2⟩ => by
    rcases h2 with ⟨c, h3, h4, h5⟩ | ⟨c, h3, h4⟩
    · rw [hk] at h3; cases h3; exact ⟨h4, h5, hb.trans h1⟩
    · rw [hk] at h3; cases h3
theorem dig_no (p : UInt8 → Bool) (of : List UInt8) (hof : ∀ c : UInt8, decide (Lib.indexByte of c < 0) = !p c) (hs : s.size ≤ 4294967280) (ha : a ≤ s.size) (h : Rdr w R s a) (hb : But [R] w0 w) (hk : dg p s.data.toList a = (false, b)) : Calls Tryz.prog 70 #[.pointer (some ⟨R, 0, none⟩), .string (str of)] w fun e w' => e = Fa b 12 ∧ But [R] w0 w' :=
  (digits_any p of hof R a s hs ha w h).mono fun e w' ⟨h1, h2⟩ => by
    rcases h2 with ⟨c, h3, h4, h5⟩ | ⟨c, h3, h4⟩
    · rw [hk] at h3; cases h3
    · rw [hk] at h3; cases h3; exact ⟨h4, hb.trans h1⟩
theorem see_c (c : UInt8) (x : Bool) (h : Rdr w R s a) (hb : But [R] w0 w) (hx : decide (s.data.toList[a]? = some c) = x) : Calls Tryz.prog 32 #[.pointer (some ⟨R, 0, none⟩), .int .u8 (c.toNat : Int)] w fun e w' => e = .returned (.bool x) ∧ Rdr w' R s a ∧ But [R] w0 w' :=
  (sees_any R a s c w h).mono fun e w' ⟨h1, h2⟩ => ⟨by rw [h1, hx], h.keep h2 (by simp), hb.trans (h2.weak (by simp))⟩
theorem fail_c (h : Rdr w R s a) (hb : But [R] w0 w) : Calls Tryz.prog 58 #[.pointer (some ⟨R, 0, none⟩)] w fun e w' => e = Fa a 12 ∧ But [R] w0 w' :=
  (fail_any R a s w h).mono fun _ _ ⟨h1, h2⟩ => ⟨h1, h2 ▸ hb⟩
end
theorem tk_le {L t : List UInt8} {a b : Nat} (h : tk L t a = (true, b)) (ha : a ≤ L.length) : b ≤ L.length := (tk_is _ _ _ _ h).le ha
theorem dg_le {p : UInt8 → Bool} {L : List UInt8} {a b : Nat} (h : dg p L a = (true, b)) (ha : a ≤ L.length) : b ≤ L.length := by
  obtain ⟨D, h1, _⟩ := dg_is h
  exact h1.le ha
/-- A float's sign and digits; the infinity behind a sign. -/
def sgn (L : List UInt8) (a : Nat) : Bool × Nat := if L[a]? = some 45 then (if L[a + 1]? = some 105 then tk L [105, 110, 102] (a + 1) else sg L (a + 1)) else sg L a
theorem sf_sgn (L : List UInt8) (a : Nat) : sf L a = if L[a]? = some 110 then tk L [110, 97, 110] a else if L[a]? = some 105 then tk L [105, 110, 102] a else sgn L a := rfl
theorem sg_1 {L : List UInt8} {a b : Nat} (k1 : tk L [48, 120] a = (false, b)) : Tx.sg L a = (false, b) := by unfold Tx.sg bd; rw [k1]; rfl
theorem sg_2 {L : List UInt8} {a b c : Nat} (k1 : tk L [48, 120] a = (true, b)) (k2 : dg isH L b = (false, c)) : Tx.sg L a = (false, c) := by unfold Tx.sg bd; rw [k1]; simp [k2]
theorem sg_3 {L : List UInt8} {a b c d : Nat} (k1 : tk L [48, 120] a = (true, b)) (k2 : dg isH L b = (true, c)) (k3 : tk L [112] c = (false, d)) : Tx.sg L a = (false, d) := by unfold Tx.sg bd; rw [k1]; simp [k2, k3]
theorem sg_4 {L : List UInt8} {a b c d : Nat} (k1 : tk L [48, 120] a = (true, b)) (k2 : dg isH L b = (true, c)) (k3 : tk L [112] c = (true, d)) : Tx.sg L a = Tx.pw L d := by unfold Tx.sg bd; rw [k1]; simp [k2, k3]
theorem pw_1 {L : List UInt8} {d : Nat} (m : L[d]? = some 45) (m0 : L[d + 1]? = some 48) : Tx.pw L d = (false, d + 1) := by unfold Tx.pw; rw [if_pos m, if_pos m0]
theorem pw_2 {L : List UInt8} {d : Nat} (m : L[d]? = some 45) (m0 : ¬ L[d + 1]? = some 48) : Tx.pw L d = dg isD L (d + 1) := by unfold Tx.pw; rw [if_pos m, if_neg m0]
theorem pw_3 {L : List UInt8} {d : Nat} (m : ¬ L[d]? = some 45) : Tx.pw L d = dg isD L d := by unfold Tx.pw; rw [if_neg m]
theorem sgn_a {L : List UInt8} {a : Nat} (g : L[a]? = some 45) (g1 : L[a + 1]? = some 105) : sgn L a = tk L [105, 110, 102] (a + 1) := by unfold sgn; rw [if_pos g, if_pos g1]
theorem sgn_b {L : List UInt8} {a : Nat} (g : L[a]? = some 45) (g1 : ¬ L[a + 1]? = some 105) : sgn L a = Tx.sg L (a + 1) := by unfold sgn; rw [if_pos g, if_neg g1]
theorem sgn_c {L : List UInt8} {a : Nat} (g : ¬ L[a]? = some 45) : sgn L a = Tx.sg L a := by unfold sgn; rw [if_neg g]
theorem pair {x : Bool × Nat} : (∃ b, x = (true, b)) ∨ (∃ b, x = (false, b)) := by
  obtain ⟨x1, x2⟩ := x
  cases x1
  · exact .inr ⟨x2, rfl⟩
  · exact .inl ⟨x2, rfl⟩

set_option linter.unusedSimpArgs false in
set_option maxRecDepth 100000 in
set_option maxHeartbeats 2000000 in
theorem signed_b (R a : Nat) (s : ByteArray) (hs : s.size ≤ 4294967280) (ha : a ≤ s.size) (W : World) (h : Rdr W R s a) (g0 : ¬ s.data.toList[a]? = some 45) : Calls Tryz.prog 61 #[.pointer (some ⟨R, 0, none⟩)] W fun e w' => But [R] W w' ∧ ((∃ b, sgn s.data.toList a = (true, b) ∧ e = .returned (.tuple #[]) ∧ Rdr w' R s b) ∨ (∃ b, sgn s.data.toList a = (false, b) ∧ e = Fa b 12)) := by
  have HA := ha
  have hb0 : But [R] W W := But.refl _ _
  have SGN := sgn_c g0
  have d0 := decide_eq_false g0
  have hl : s.data.toList.length = s.size := by simp
  rcases pair (x := tk s.data.toList [48, 120] a) with ⟨b1, k1⟩ | ⟨b1, k1⟩
  · have l1 := tk_le k1 (by omega)
    rcases pair (x := dg isH s.data.toList b1) with ⟨b2, k2⟩ | ⟨b2, k2⟩
    · have l2 := dg_le k2 l1
      rcases pair (x := tk s.data.toList [112] b2) with ⟨b3, k3⟩ | ⟨b3, k3⟩
      · have l3 := tk_le k3 l2
        by_cases m : s.data.toList[b3]? = some 45
        · have l4 : b3 + 1 ≤ s.size := by have := (List.getElem?_eq_some_iff.1 m).1; rw [hl] at this; omega
          have d3 := decide_eq_true m
          have e3 : IntKind.i64.wrap ((b3 : Int) + 1) = (b3 : Int) + 1 := by rw [IntKind.wrap_i64]; omega
          by_cases m0 : s.data.toList[b3 + 1]? = some 48
          · have d4 := decide_eq_true m0
            have HF : Hid (sgn s.data.toList a = (false, b3 + 1)) := Lib.hid (SGN.trans ((sg_4 k1 k2 k3).trans (pw_1 m m0)))
            go_enter Tryz.func61, Tryz.ntmps61
            have tok : True := trivial
            go_wp2_with (go_at_call 32; have _t := tok; clear tok; refine (see_c (R := R) (a := a) (s := s) (w0 := W) 45 false (by assumption) (by assumption) (by assumption)).mono ?_; rintro e w1 ⟨rfl, hr, hb⟩)
            have tok : True := trivial
            go_wp2_with (go_at_call 28; have _t := tok; clear tok; refine (take_ok (R := R) (a := a) (b := b1) (s := s) (w0 := W) [48, 120] (by decide) hs (by omega) (by assumption) (by assumption) (by assumption)).mono ?_; rintro e w1 ⟨rfl, hr, hb⟩)
            have tok : True := trivial
            go_wp2_with (go_at_call 70; have _t := tok; clear tok; refine (dig_ok (R := R) (a := b1) (b := b2) (s := s) (w0 := W) isH ofH ofH_p hs (by omega) (by assumption) (by assumption) (by assumption)).mono ?_; rintro e w1 ⟨rfl, hr, hb⟩)
            have tok : True := trivial
            go_wp2_with (go_at_call 28; have _t := tok; clear tok; refine (take_ok (R := R) (a := b2) (b := b3) (s := s) (w0 := W) [112] (by decide) hs (by omega) (by assumption) (by assumption) (by assumption)).mono ?_; rintro e w1 ⟨rfl, hr, hb⟩)
            have tok : True := trivial
            go_wp2_with (go_at_call 32; have _t := tok; clear tok; refine (see_c (R := R) (a := b3) (s := s) (w0 := W) 45 true (by assumption) (by assumption) (by assumption)).mono ?_; rintro e w1 ⟨rfl, hr, hb⟩; obtain ⟨y0, y1, y2⟩ := Rdr.cells hr)
            have hr3 : Rdr (w1.setCell ⟨R, 1, none⟩ (.int .i64 ((b3 : Int) + 1))) R s (b3 + 1) := Rdr.step (by assumption : Rdr w1 R s b3) (b3 + 1)
            have hb3 : But [R] W (w1.setCell ⟨R, 1, none⟩ (.int .i64 ((b3 : Int) + 1))) := But.setCell (by assumption) _ _ (.inl (by simp))
            have tok : True := trivial
            go_wp2_with (go_at_call 32; have _t := tok; clear tok; refine (see_c (R := R) (a := (b3 + 1)) (s := s) (w0 := W) 48 true (by assumption) (by assumption) (by assumption)).mono ?_; rintro e w1 ⟨rfl, hr, hb⟩)
            have tok : True := trivial
            go_wp2_with (go_at_call 58; have _t := tok; clear tok; refine (fail_c (R := R) (a := (b3 + 1)) (s := s) (w0 := W) (by assumption) (by assumption)).mono ?_; rintro e w1 ⟨he, hb⟩; subst he; simp only [Fa])
            exact ⟨rfl, by assumption, .inr ⟨(b3 + 1), HF.out, rfl⟩⟩
          · have d4 := decide_eq_false m0
            rcases pair (x := dg isD s.data.toList (b3 + 1)) with ⟨b4, k4⟩ | ⟨b4, k4⟩
            · have HF : Hid (sgn s.data.toList a = (true, b4)) := Lib.hid (SGN.trans ((sg_4 k1 k2 k3).trans ((pw_2 m m0).trans k4)))
              go_enter Tryz.func61, Tryz.ntmps61
              have tok : True := trivial
              go_wp2_with (go_at_call 32; have _t := tok; clear tok; refine (see_c (R := R) (a := a) (s := s) (w0 := W) 45 false (by assumption) (by assumption) (by assumption)).mono ?_; rintro e w1 ⟨rfl, hr, hb⟩)
              have tok : True := trivial
              go_wp2_with (go_at_call 28; have _t := tok; clear tok; refine (take_ok (R := R) (a := a) (b := b1) (s := s) (w0 := W) [48, 120] (by decide) hs (by omega) (by assumption) (by assumption) (by assumption)).mono ?_; rintro e w1 ⟨rfl, hr, hb⟩)
              have tok : True := trivial
              go_wp2_with (go_at_call 70; have _t := tok; clear tok; refine (dig_ok (R := R) (a := b1) (b := b2) (s := s) (w0 := W) isH ofH ofH_p hs (by omega) (by assumption) (by assumption) (by assumption)).mono ?_; rintro e w1 ⟨rfl, hr, hb⟩)
              have tok : True := trivial
              go_wp2_with (go_at_call 28; have _t := tok; clear tok; refine (take_ok (R := R) (a := b2) (b := b3) (s := s) (w0 := W) [112] (by decide) hs (by omega) (by assumption) (by assumption) (by assumption)).mono ?_; rintro e w1 ⟨rfl, hr, hb⟩)
              have tok : True := trivial
              go_wp2_with (go_at_call 32; have _t := tok; clear tok; refine (see_c (R := R) (a := b3) (s := s) (w0 := W) 45 true (by assumption) (by assumption) (by assumption)).mono ?_; rintro e w1 ⟨rfl, hr, hb⟩; obtain ⟨y0, y1, y2⟩ := Rdr.cells hr)
              have hr3 : Rdr (w1.setCell ⟨R, 1, none⟩ (.int .i64 ((b3 : Int) + 1))) R s (b3 + 1) := Rdr.step (by assumption : Rdr w1 R s b3) (b3 + 1)
              have hb3 : But [R] W (w1.setCell ⟨R, 1, none⟩ (.int .i64 ((b3 : Int) + 1))) := But.setCell (by assumption) _ _ (.inl (by simp))
              have tok : True := trivial
              go_wp2_with (go_at_call 32; have _t := tok; clear tok; refine (see_c (R := R) (a := (b3 + 1)) (s := s) (w0 := W) 48 false (by assumption) (by assumption) (by assumption)).mono ?_; rintro e w1 ⟨rfl, hr, hb⟩)
              have tok : True := trivial
              go_wp2_with (go_at_call 70; have _t := tok; clear tok; refine (dig_ok (R := R) (a := (b3 + 1)) (b := b4) (s := s) (w0 := W) isD ofD ofD_p hs (by omega) (by assumption) (by assumption) (by assumption)).mono ?_; rintro e w1 ⟨rfl, hr, hb⟩)
              go_end0
              exact ⟨by assumption, .inl ⟨b4, HF.out, rfl, by assumption⟩⟩
            · have HF : Hid (sgn s.data.toList a = (false, b4)) := Lib.hid (SGN.trans ((sg_4 k1 k2 k3).trans ((pw_2 m m0).trans k4)))
              go_enter Tryz.func61, Tryz.ntmps61
              have tok : True := trivial
              go_wp2_with (go_at_call 32; have _t := tok; clear tok; refine (see_c (R := R) (a := a) (s := s) (w0 := W) 45 false (by assumption) (by assumption) (by assumption)).mono ?_; rintro e w1 ⟨rfl, hr, hb⟩)
              have tok : True := trivial
              go_wp2_with (go_at_call 28; have _t := tok; clear tok; refine (take_ok (R := R) (a := a) (b := b1) (s := s) (w0 := W) [48, 120] (by decide) hs (by omega) (by assumption) (by assumption) (by assumption)).mono ?_; rintro e w1 ⟨rfl, hr, hb⟩)
              have tok : True := trivial
              go_wp2_with (go_at_call 70; have _t := tok; clear tok; refine (dig_ok (R := R) (a := b1) (b := b2) (s := s) (w0 := W) isH ofH ofH_p hs (by omega) (by assumption) (by assumption) (by assumption)).mono ?_; rintro e w1 ⟨rfl, hr, hb⟩)
              have tok : True := trivial
              go_wp2_with (go_at_call 28; have _t := tok; clear tok; refine (take_ok (R := R) (a := b2) (b := b3) (s := s) (w0 := W) [112] (by decide) hs (by omega) (by assumption) (by assumption) (by assumption)).mono ?_; rintro e w1 ⟨rfl, hr, hb⟩)
              have tok : True := trivial
              go_wp2_with (go_at_call 32; have _t := tok; clear tok; refine (see_c (R := R) (a := b3) (s := s) (w0 := W) 45 true (by assumption) (by assumption) (by assumption)).mono ?_; rintro e w1 ⟨rfl, hr, hb⟩; obtain ⟨y0, y1, y2⟩ := Rdr.cells hr)
              have hr3 : Rdr (w1.setCell ⟨R, 1, none⟩ (.int .i64 ((b3 : Int) + 1))) R s (b3 + 1) := Rdr.step (by assumption : Rdr w1 R s b3) (b3 + 1)
              have hb3 : But [R] W (w1.setCell ⟨R, 1, none⟩ (.int .i64 ((b3 : Int) + 1))) := But.setCell (by assumption) _ _ (.inl (by simp))
              have tok : True := trivial
              go_wp2_with (go_at_call 32; have _t := tok; clear tok; refine (see_c (R := R) (a := (b3 + 1)) (s := s) (w0 := W) 48 false (by assumption) (by assumption) (by assumption)).mono ?_; rintro e w1 ⟨rfl, hr, hb⟩)
              have tok : True := trivial
              go_wp2_with (go_at_call 70; have _t := tok; clear tok; refine (dig_no (R := R) (a := (b3 + 1)) (b := b4) (s := s) (w0 := W) isD ofD ofD_p hs (by omega) (by assumption) (by assumption) (by assumption)).mono ?_; rintro e w1 ⟨he, hb⟩; subst he; simp only [Fa])
              exact ⟨rfl, by assumption, .inr ⟨b4, HF.out, rfl⟩⟩
        · have d3 := decide_eq_false m
          rcases pair (x := dg isD s.data.toList b3) with ⟨b4, k4⟩ | ⟨b4, k4⟩
          · have HF : Hid (sgn s.data.toList a = (true, b4)) := Lib.hid (SGN.trans ((sg_4 k1 k2 k3).trans ((pw_3 m).trans k4)))
            go_enter Tryz.func61, Tryz.ntmps61
            have tok : True := trivial
            go_wp2_with (go_at_call 32; have _t := tok; clear tok; refine (see_c (R := R) (a := a) (s := s) (w0 := W) 45 false (by assumption) (by assumption) (by assumption)).mono ?_; rintro e w1 ⟨rfl, hr, hb⟩)
            have tok : True := trivial
            go_wp2_with (go_at_call 28; have _t := tok; clear tok; refine (take_ok (R := R) (a := a) (b := b1) (s := s) (w0 := W) [48, 120] (by decide) hs (by omega) (by assumption) (by assumption) (by assumption)).mono ?_; rintro e w1 ⟨rfl, hr, hb⟩)
            have tok : True := trivial
            go_wp2_with (go_at_call 70; have _t := tok; clear tok; refine (dig_ok (R := R) (a := b1) (b := b2) (s := s) (w0 := W) isH ofH ofH_p hs (by omega) (by assumption) (by assumption) (by assumption)).mono ?_; rintro e w1 ⟨rfl, hr, hb⟩)
            have tok : True := trivial
            go_wp2_with (go_at_call 28; have _t := tok; clear tok; refine (take_ok (R := R) (a := b2) (b := b3) (s := s) (w0 := W) [112] (by decide) hs (by omega) (by assumption) (by assumption) (by assumption)).mono ?_; rintro e w1 ⟨rfl, hr, hb⟩)
            have tok : True := trivial
            go_wp2_with (go_at_call 32; have _t := tok; clear tok; refine (see_c (R := R) (a := b3) (s := s) (w0 := W) 45 false (by assumption) (by assumption) (by assumption)).mono ?_; rintro e w1 ⟨rfl, hr, hb⟩)
            have tok : True := trivial
            go_wp2_with (go_at_call 70; have _t := tok; clear tok; refine (dig_ok (R := R) (a := b3) (b := b4) (s := s) (w0 := W) isD ofD ofD_p hs (by omega) (by assumption) (by assumption) (by assumption)).mono ?_; rintro e w1 ⟨rfl, hr, hb⟩)
            go_end0
            exact ⟨by assumption, .inl ⟨b4, HF.out, rfl, by assumption⟩⟩
          · have HF : Hid (sgn s.data.toList a = (false, b4)) := Lib.hid (SGN.trans ((sg_4 k1 k2 k3).trans ((pw_3 m).trans k4)))
            go_enter Tryz.func61, Tryz.ntmps61
            have tok : True := trivial
            go_wp2_with (go_at_call 32; have _t := tok; clear tok; refine (see_c (R := R) (a := a) (s := s) (w0 := W) 45 false (by assumption) (by assumption) (by assumption)).mono ?_; rintro e w1 ⟨rfl, hr, hb⟩)
            have tok : True := trivial
            go_wp2_with (go_at_call 28; have _t := tok; clear tok; refine (take_ok (R := R) (a := a) (b := b1) (s := s) (w0 := W) [48, 120] (by decide) hs (by omega) (by assumption) (by assumption) (by assumption)).mono ?_; rintro e w1 ⟨rfl, hr, hb⟩)
            have tok : True := trivial
            go_wp2_with (go_at_call 70; have _t := tok; clear tok; refine (dig_ok (R := R) (a := b1) (b := b2) (s := s) (w0 := W) isH ofH ofH_p hs (by omega) (by assumption) (by assumption) (by assumption)).mono ?_; rintro e w1 ⟨rfl, hr, hb⟩)
            have tok : True := trivial
            go_wp2_with (go_at_call 28; have _t := tok; clear tok; refine (take_ok (R := R) (a := b2) (b := b3) (s := s) (w0 := W) [112] (by decide) hs (by omega) (by assumption) (by assumption) (by assumption)).mono ?_; rintro e w1 ⟨rfl, hr, hb⟩)
            have tok : True := trivial
            go_wp2_with (go_at_call 32; have _t := tok; clear tok; refine (see_c (R := R) (a := b3) (s := s) (w0 := W) 45 false (by assumption) (by assumption) (by assumption)).mono ?_; rintro e w1 ⟨rfl, hr, hb⟩)
            have tok : True := trivial
            go_wp2_with (go_at_call 70; have _t := tok; clear tok; refine (dig_no (R := R) (a := b3) (b := b4) (s := s) (w0 := W) isD ofD ofD_p hs (by omega) (by assumption) (by assumption) (by assumption)).mono ?_; rintro e w1 ⟨he, hb⟩; subst he; simp only [Fa])
            exact ⟨rfl, by assumption, .inr ⟨b4, HF.out, rfl⟩⟩
      · have HF : Hid (sgn s.data.toList a = (false, b3)) := Lib.hid (SGN.trans (sg_3 k1 k2 k3))
        go_enter Tryz.func61, Tryz.ntmps61
        have tok : True := trivial
        go_wp2_with (go_at_call 32; have _t := tok; clear tok; refine (see_c (R := R) (a := a) (s := s) (w0 := W) 45 false (by assumption) (by assumption) (by assumption)).mono ?_; rintro e w1 ⟨rfl, hr, hb⟩)
        have tok : True := trivial
        go_wp2_with (go_at_call 28; have _t := tok; clear tok; refine (take_ok (R := R) (a := a) (b := b1) (s := s) (w0 := W) [48, 120] (by decide) hs (by omega) (by assumption) (by assumption) (by assumption)).mono ?_; rintro e w1 ⟨rfl, hr, hb⟩)
        have tok : True := trivial
        go_wp2_with (go_at_call 70; have _t := tok; clear tok; refine (dig_ok (R := R) (a := b1) (b := b2) (s := s) (w0 := W) isH ofH ofH_p hs (by omega) (by assumption) (by assumption) (by assumption)).mono ?_; rintro e w1 ⟨rfl, hr, hb⟩)
        have tok : True := trivial
        go_wp2_with (go_at_call 28; have _t := tok; clear tok; refine (take_no (R := R) (a := b2) (b := b3) (s := s) (w0 := W) [112] (by decide) hs (by omega) (by assumption) (by assumption) (by assumption)).mono ?_; rintro e w1 ⟨he, hb⟩; subst he; simp only [Fa])
        exact ⟨rfl, by assumption, .inr ⟨b3, HF.out, rfl⟩⟩
    · have HF : Hid (sgn s.data.toList a = (false, b2)) := Lib.hid (SGN.trans (sg_2 k1 k2))
      go_enter Tryz.func61, Tryz.ntmps61
      have tok : True := trivial
      go_wp2_with (go_at_call 32; have _t := tok; clear tok; refine (see_c (R := R) (a := a) (s := s) (w0 := W) 45 false (by assumption) (by assumption) (by assumption)).mono ?_; rintro e w1 ⟨rfl, hr, hb⟩)
      have tok : True := trivial
      go_wp2_with (go_at_call 28; have _t := tok; clear tok; refine (take_ok (R := R) (a := a) (b := b1) (s := s) (w0 := W) [48, 120] (by decide) hs (by omega) (by assumption) (by assumption) (by assumption)).mono ?_; rintro e w1 ⟨rfl, hr, hb⟩)
      have tok : True := trivial
      go_wp2_with (go_at_call 70; have _t := tok; clear tok; refine (dig_no (R := R) (a := b1) (b := b2) (s := s) (w0 := W) isH ofH ofH_p hs (by omega) (by assumption) (by assumption) (by assumption)).mono ?_; rintro e w1 ⟨he, hb⟩; subst he; simp only [Fa])
      exact ⟨rfl, by assumption, .inr ⟨b2, HF.out, rfl⟩⟩
  · have HF : Hid (sgn s.data.toList a = (false, b1)) := Lib.hid (SGN.trans (sg_1 k1))
    go_enter Tryz.func61, Tryz.ntmps61
    have tok : True := trivial
    go_wp2_with (go_at_call 32; have _t := tok; clear tok; refine (see_c (R := R) (a := a) (s := s) (w0 := W) 45 false (by assumption) (by assumption) (by assumption)).mono ?_; rintro e w1 ⟨rfl, hr, hb⟩)
    have tok : True := trivial
    go_wp2_with (go_at_call 28; have _t := tok; clear tok; refine (take_no (R := R) (a := a) (b := b1) (s := s) (w0 := W) [48, 120] (by decide) hs (by omega) (by assumption) (by assumption) (by assumption)).mono ?_; rintro e w1 ⟨he, hb⟩; subst he; simp only [Fa])
    exact ⟨rfl, by assumption, .inr ⟨b1, HF.out, rfl⟩⟩

set_option linter.unusedSimpArgs false in
set_option maxRecDepth 100000 in
set_option maxHeartbeats 2000000 in
theorem signed_c (R a : Nat) (s : ByteArray) (hs : s.size ≤ 4294967280) (ha : a ≤ s.size) (W : World) (h : Rdr W R s a) (g0 : s.data.toList[a]? = some 45) (g1 : ¬ s.data.toList[a + 1]? = some 105) : Calls Tryz.prog 61 #[.pointer (some ⟨R, 0, none⟩)] W fun e w' => But [R] W w' ∧ ((∃ b, sgn s.data.toList a = (true, b) ∧ e = .returned (.tuple #[]) ∧ Rdr w' R s b) ∨ (∃ b, sgn s.data.toList a = (false, b) ∧ e = Fa b 12)) := by
  have HA := ha
  have hb0 : But [R] W W := But.refl _ _
  have SGN := sgn_b g0 g1
  have d0 := decide_eq_true g0
  have d1 := decide_eq_false g1
  have hl : s.data.toList.length = s.size := by simp
  have la : a + 1 ≤ s.size := by have := (List.getElem?_eq_some_iff.1 g0).1; rw [hl] at this; omega
  have e0 : IntKind.i64.wrap ((a : Int) + 1) = (a : Int) + 1 := by rw [IntKind.wrap_i64]; omega
  rcases pair (x := tk s.data.toList [48, 120] (a + 1)) with ⟨b1, k1⟩ | ⟨b1, k1⟩
  · have l1 := tk_le k1 (by omega)
    rcases pair (x := dg isH s.data.toList b1) with ⟨b2, k2⟩ | ⟨b2, k2⟩
    · have l2 := dg_le k2 l1
      rcases pair (x := tk s.data.toList [112] b2) with ⟨b3, k3⟩ | ⟨b3, k3⟩
      · have l3 := tk_le k3 l2
        by_cases m : s.data.toList[b3]? = some 45
        · have l4 : b3 + 1 ≤ s.size := by have := (List.getElem?_eq_some_iff.1 m).1; rw [hl] at this; omega
          have d3 := decide_eq_true m
          have e3 : IntKind.i64.wrap ((b3 : Int) + 1) = (b3 : Int) + 1 := by rw [IntKind.wrap_i64]; omega
          by_cases m0 : s.data.toList[b3 + 1]? = some 48
          · have d4 := decide_eq_true m0
            have HF : Hid (sgn s.data.toList a = (false, b3 + 1)) := Lib.hid (SGN.trans ((sg_4 k1 k2 k3).trans (pw_1 m m0)))
            go_enter Tryz.func61, Tryz.ntmps61
            have tok : True := trivial
            go_wp2_with (go_at_call 32; have _t := tok; clear tok; refine (see_c (R := R) (a := a) (s := s) (w0 := W) 45 true (by assumption) (by assumption) (by assumption)).mono ?_; rintro e w1 ⟨rfl, hr, hb⟩; obtain ⟨y0, y1, y2⟩ := Rdr.cells hr)
            have hr3 : Rdr (w1.setCell ⟨R, 1, none⟩ (.int .i64 ((a : Int) + 1))) R s (a + 1) := Rdr.step (by assumption : Rdr w1 R s a) (a + 1)
            have hb3 : But [R] W (w1.setCell ⟨R, 1, none⟩ (.int .i64 ((a : Int) + 1))) := But.setCell (by assumption) _ _ (.inl (by simp))
            have tok : True := trivial
            go_wp2_with (go_at_call 32; have _t := tok; clear tok; refine (see_c (R := R) (a := (a + 1)) (s := s) (w0 := W) 105 false (by assumption) (by assumption) (by assumption)).mono ?_; rintro e w1 ⟨rfl, hr, hb⟩)
            have tok : True := trivial
            go_wp2_with (go_at_call 28; have _t := tok; clear tok; refine (take_ok (R := R) (a := (a + 1)) (b := b1) (s := s) (w0 := W) [48, 120] (by decide) hs (by omega) (by assumption) (by assumption) (by assumption)).mono ?_; rintro e w1 ⟨rfl, hr, hb⟩)
            have tok : True := trivial
            go_wp2_with (go_at_call 70; have _t := tok; clear tok; refine (dig_ok (R := R) (a := b1) (b := b2) (s := s) (w0 := W) isH ofH ofH_p hs (by omega) (by assumption) (by assumption) (by assumption)).mono ?_; rintro e w1 ⟨rfl, hr, hb⟩)
            have tok : True := trivial
            go_wp2_with (go_at_call 28; have _t := tok; clear tok; refine (take_ok (R := R) (a := b2) (b := b3) (s := s) (w0 := W) [112] (by decide) hs (by omega) (by assumption) (by assumption) (by assumption)).mono ?_; rintro e w1 ⟨rfl, hr, hb⟩)
            have tok : True := trivial
            go_wp2_with (go_at_call 32; have _t := tok; clear tok; refine (see_c (R := R) (a := b3) (s := s) (w0 := W) 45 true (by assumption) (by assumption) (by assumption)).mono ?_; rintro e w1 ⟨rfl, hr, hb⟩; obtain ⟨y0, y1, y2⟩ := Rdr.cells hr)
            have hr3 : Rdr (w1.setCell ⟨R, 1, none⟩ (.int .i64 ((b3 : Int) + 1))) R s (b3 + 1) := Rdr.step (by assumption : Rdr w1 R s b3) (b3 + 1)
            have hb3 : But [R] W (w1.setCell ⟨R, 1, none⟩ (.int .i64 ((b3 : Int) + 1))) := But.setCell (by assumption) _ _ (.inl (by simp))
            have tok : True := trivial
            go_wp2_with (go_at_call 32; have _t := tok; clear tok; refine (see_c (R := R) (a := (b3 + 1)) (s := s) (w0 := W) 48 true (by assumption) (by assumption) (by assumption)).mono ?_; rintro e w1 ⟨rfl, hr, hb⟩)
            have tok : True := trivial
            go_wp2_with (go_at_call 58; have _t := tok; clear tok; refine (fail_c (R := R) (a := (b3 + 1)) (s := s) (w0 := W) (by assumption) (by assumption)).mono ?_; rintro e w1 ⟨he, hb⟩; subst he; simp only [Fa])
            exact ⟨rfl, by assumption, .inr ⟨(b3 + 1), HF.out, rfl⟩⟩
          · have d4 := decide_eq_false m0
            rcases pair (x := dg isD s.data.toList (b3 + 1)) with ⟨b4, k4⟩ | ⟨b4, k4⟩
            · have HF : Hid (sgn s.data.toList a = (true, b4)) := Lib.hid (SGN.trans ((sg_4 k1 k2 k3).trans ((pw_2 m m0).trans k4)))
              go_enter Tryz.func61, Tryz.ntmps61
              have tok : True := trivial
              go_wp2_with (go_at_call 32; have _t := tok; clear tok; refine (see_c (R := R) (a := a) (s := s) (w0 := W) 45 true (by assumption) (by assumption) (by assumption)).mono ?_; rintro e w1 ⟨rfl, hr, hb⟩; obtain ⟨y0, y1, y2⟩ := Rdr.cells hr)
              have hr3 : Rdr (w1.setCell ⟨R, 1, none⟩ (.int .i64 ((a : Int) + 1))) R s (a + 1) := Rdr.step (by assumption : Rdr w1 R s a) (a + 1)
              have hb3 : But [R] W (w1.setCell ⟨R, 1, none⟩ (.int .i64 ((a : Int) + 1))) := But.setCell (by assumption) _ _ (.inl (by simp))
              have tok : True := trivial
              go_wp2_with (go_at_call 32; have _t := tok; clear tok; refine (see_c (R := R) (a := (a + 1)) (s := s) (w0 := W) 105 false (by assumption) (by assumption) (by assumption)).mono ?_; rintro e w1 ⟨rfl, hr, hb⟩)
              have tok : True := trivial
              go_wp2_with (go_at_call 28; have _t := tok; clear tok; refine (take_ok (R := R) (a := (a + 1)) (b := b1) (s := s) (w0 := W) [48, 120] (by decide) hs (by omega) (by assumption) (by assumption) (by assumption)).mono ?_; rintro e w1 ⟨rfl, hr, hb⟩)
              have tok : True := trivial
              go_wp2_with (go_at_call 70; have _t := tok; clear tok; refine (dig_ok (R := R) (a := b1) (b := b2) (s := s) (w0 := W) isH ofH ofH_p hs (by omega) (by assumption) (by assumption) (by assumption)).mono ?_; rintro e w1 ⟨rfl, hr, hb⟩)
              have tok : True := trivial
              go_wp2_with (go_at_call 28; have _t := tok; clear tok; refine (take_ok (R := R) (a := b2) (b := b3) (s := s) (w0 := W) [112] (by decide) hs (by omega) (by assumption) (by assumption) (by assumption)).mono ?_; rintro e w1 ⟨rfl, hr, hb⟩)
              have tok : True := trivial
              go_wp2_with (go_at_call 32; have _t := tok; clear tok; refine (see_c (R := R) (a := b3) (s := s) (w0 := W) 45 true (by assumption) (by assumption) (by assumption)).mono ?_; rintro e w1 ⟨rfl, hr, hb⟩; obtain ⟨y0, y1, y2⟩ := Rdr.cells hr)
              have hr3 : Rdr (w1.setCell ⟨R, 1, none⟩ (.int .i64 ((b3 : Int) + 1))) R s (b3 + 1) := Rdr.step (by assumption : Rdr w1 R s b3) (b3 + 1)
              have hb3 : But [R] W (w1.setCell ⟨R, 1, none⟩ (.int .i64 ((b3 : Int) + 1))) := But.setCell (by assumption) _ _ (.inl (by simp))
              have tok : True := trivial
              go_wp2_with (go_at_call 32; have _t := tok; clear tok; refine (see_c (R := R) (a := (b3 + 1)) (s := s) (w0 := W) 48 false (by assumption) (by assumption) (by assumption)).mono ?_; rintro e w1 ⟨rfl, hr, hb⟩)
              have tok : True := trivial
              go_wp2_with (go_at_call 70; have _t := tok; clear tok; refine (dig_ok (R := R) (a := (b3 + 1)) (b := b4) (s := s) (w0 := W) isD ofD ofD_p hs (by omega) (by assumption) (by assumption) (by assumption)).mono ?_; rintro e w1 ⟨rfl, hr, hb⟩)
              go_end0
              exact ⟨by assumption, .inl ⟨b4, HF.out, rfl, by assumption⟩⟩
            · have HF : Hid (sgn s.data.toList a = (false, b4)) := Lib.hid (SGN.trans ((sg_4 k1 k2 k3).trans ((pw_2 m m0).trans k4)))
              go_enter Tryz.func61, Tryz.ntmps61
              have tok : True := trivial
              go_wp2_with (go_at_call 32; have _t := tok; clear tok; refine (see_c (R := R) (a := a) (s := s) (w0 := W) 45 true (by assumption) (by assumption) (by assumption)).mono ?_; rintro e w1 ⟨rfl, hr, hb⟩; obtain ⟨y0, y1, y2⟩ := Rdr.cells hr)
              have hr3 : Rdr (w1.setCell ⟨R, 1, none⟩ (.int .i64 ((a : Int) + 1))) R s (a + 1) := Rdr.step (by assumption : Rdr w1 R s a) (a + 1)
              have hb3 : But [R] W (w1.setCell ⟨R, 1, none⟩ (.int .i64 ((a : Int) + 1))) := But.setCell (by assumption) _ _ (.inl (by simp))
              have tok : True := trivial
              go_wp2_with (go_at_call 32; have _t := tok; clear tok; refine (see_c (R := R) (a := (a + 1)) (s := s) (w0 := W) 105 false (by assumption) (by assumption) (by assumption)).mono ?_; rintro e w1 ⟨rfl, hr, hb⟩)
              have tok : True := trivial
              go_wp2_with (go_at_call 28; have _t := tok; clear tok; refine (take_ok (R := R) (a := (a + 1)) (b := b1) (s := s) (w0 := W) [48, 120] (by decide) hs (by omega) (by assumption) (by assumption) (by assumption)).mono ?_; rintro e w1 ⟨rfl, hr, hb⟩)
              have tok : True := trivial
              go_wp2_with (go_at_call 70; have _t := tok; clear tok; refine (dig_ok (R := R) (a := b1) (b := b2) (s := s) (w0 := W) isH ofH ofH_p hs (by omega) (by assumption) (by assumption) (by assumption)).mono ?_; rintro e w1 ⟨rfl, hr, hb⟩)
              have tok : True := trivial
              go_wp2_with (go_at_call 28; have _t := tok; clear tok; refine (take_ok (R := R) (a := b2) (b := b3) (s := s) (w0 := W) [112] (by decide) hs (by omega) (by assumption) (by assumption) (by assumption)).mono ?_; rintro e w1 ⟨rfl, hr, hb⟩)
              have tok : True := trivial
              go_wp2_with (go_at_call 32; have _t := tok; clear tok; refine (see_c (R := R) (a := b3) (s := s) (w0 := W) 45 true (by assumption) (by assumption) (by assumption)).mono ?_; rintro e w1 ⟨rfl, hr, hb⟩; obtain ⟨y0, y1, y2⟩ := Rdr.cells hr)
              have hr3 : Rdr (w1.setCell ⟨R, 1, none⟩ (.int .i64 ((b3 : Int) + 1))) R s (b3 + 1) := Rdr.step (by assumption : Rdr w1 R s b3) (b3 + 1)
              have hb3 : But [R] W (w1.setCell ⟨R, 1, none⟩ (.int .i64 ((b3 : Int) + 1))) := But.setCell (by assumption) _ _ (.inl (by simp))
              have tok : True := trivial
              go_wp2_with (go_at_call 32; have _t := tok; clear tok; refine (see_c (R := R) (a := (b3 + 1)) (s := s) (w0 := W) 48 false (by assumption) (by assumption) (by assumption)).mono ?_; rintro e w1 ⟨rfl, hr, hb⟩)
              have tok : True := trivial
              go_wp2_with (go_at_call 70; have _t := tok; clear tok; refine (dig_no (R := R) (a := (b3 + 1)) (b := b4) (s := s) (w0 := W) isD ofD ofD_p hs (by omega) (by assumption) (by assumption) (by assumption)).mono ?_; rintro e w1 ⟨he, hb⟩; subst he; simp only [Fa])
              exact ⟨rfl, by assumption, .inr ⟨b4, HF.out, rfl⟩⟩
        · have d3 := decide_eq_false m
          rcases pair (x := dg isD s.data.toList b3) with ⟨b4, k4⟩ | ⟨b4, k4⟩
          · have HF : Hid (sgn s.data.toList a = (true, b4)) := Lib.hid (SGN.trans ((sg_4 k1 k2 k3).trans ((pw_3 m).trans k4)))
            go_enter Tryz.func61, Tryz.ntmps61
            have tok : True := trivial
            go_wp2_with (go_at_call 32; have _t := tok; clear tok; refine (see_c (R := R) (a := a) (s := s) (w0 := W) 45 true (by assumption) (by assumption) (by assumption)).mono ?_; rintro e w1 ⟨rfl, hr, hb⟩; obtain ⟨y0, y1, y2⟩ := Rdr.cells hr)
            have hr3 : Rdr (w1.setCell ⟨R, 1, none⟩ (.int .i64 ((a : Int) + 1))) R s (a + 1) := Rdr.step (by assumption : Rdr w1 R s a) (a + 1)
            have hb3 : But [R] W (w1.setCell ⟨R, 1, none⟩ (.int .i64 ((a : Int) + 1))) := But.setCell (by assumption) _ _ (.inl (by simp))
            have tok : True := trivial
            go_wp2_with (go_at_call 32; have _t := tok; clear tok; refine (see_c (R := R) (a := (a + 1)) (s := s) (w0 := W) 105 false (by assumption) (by assumption) (by assumption)).mono ?_; rintro e w1 ⟨rfl, hr, hb⟩)
            have tok : True := trivial
            go_wp2_with (go_at_call 28; have _t := tok; clear tok; refine (take_ok (R := R) (a := (a + 1)) (b := b1) (s := s) (w0 := W) [48, 120] (by decide) hs (by omega) (by assumption) (by assumption) (by assumption)).mono ?_; rintro e w1 ⟨rfl, hr, hb⟩)
            have tok : True := trivial
            go_wp2_with (go_at_call 70; have _t := tok; clear tok; refine (dig_ok (R := R) (a := b1) (b := b2) (s := s) (w0 := W) isH ofH ofH_p hs (by omega) (by assumption) (by assumption) (by assumption)).mono ?_; rintro e w1 ⟨rfl, hr, hb⟩)
            have tok : True := trivial
            go_wp2_with (go_at_call 28; have _t := tok; clear tok; refine (take_ok (R := R) (a := b2) (b := b3) (s := s) (w0 := W) [112] (by decide) hs (by omega) (by assumption) (by assumption) (by assumption)).mono ?_; rintro e w1 ⟨rfl, hr, hb⟩)
            have tok : True := trivial
            go_wp2_with (go_at_call 32; have _t := tok; clear tok; refine (see_c (R := R) (a := b3) (s := s) (w0 := W) 45 false (by assumption) (by assumption) (by assumption)).mono ?_; rintro e w1 ⟨rfl, hr, hb⟩)
            have tok : True := trivial
            go_wp2_with (go_at_call 70; have _t := tok; clear tok; refine (dig_ok (R := R) (a := b3) (b := b4) (s := s) (w0 := W) isD ofD ofD_p hs (by omega) (by assumption) (by assumption) (by assumption)).mono ?_; rintro e w1 ⟨rfl, hr, hb⟩)
            go_end0
            exact ⟨by assumption, .inl ⟨b4, HF.out, rfl, by assumption⟩⟩
          · have HF : Hid (sgn s.data.toList a = (false, b4)) := Lib.hid (SGN.trans ((sg_4 k1 k2 k3).trans ((pw_3 m).trans k4)))
            go_enter Tryz.func61, Tryz.ntmps61
            have tok : True := trivial
            go_wp2_with (go_at_call 32; have _t := tok; clear tok; refine (see_c (R := R) (a := a) (s := s) (w0 := W) 45 true (by assumption) (by assumption) (by assumption)).mono ?_; rintro e w1 ⟨rfl, hr, hb⟩; obtain ⟨y0, y1, y2⟩ := Rdr.cells hr)
            have hr3 : Rdr (w1.setCell ⟨R, 1, none⟩ (.int .i64 ((a : Int) + 1))) R s (a + 1) := Rdr.step (by assumption : Rdr w1 R s a) (a + 1)
            have hb3 : But [R] W (w1.setCell ⟨R, 1, none⟩ (.int .i64 ((a : Int) + 1))) := But.setCell (by assumption) _ _ (.inl (by simp))
            have tok : True := trivial
            go_wp2_with (go_at_call 32; have _t := tok; clear tok; refine (see_c (R := R) (a := (a + 1)) (s := s) (w0 := W) 105 false (by assumption) (by assumption) (by assumption)).mono ?_; rintro e w1 ⟨rfl, hr, hb⟩)
            have tok : True := trivial
            go_wp2_with (go_at_call 28; have _t := tok; clear tok; refine (take_ok (R := R) (a := (a + 1)) (b := b1) (s := s) (w0 := W) [48, 120] (by decide) hs (by omega) (by assumption) (by assumption) (by assumption)).mono ?_; rintro e w1 ⟨rfl, hr, hb⟩)
            have tok : True := trivial
            go_wp2_with (go_at_call 70; have _t := tok; clear tok; refine (dig_ok (R := R) (a := b1) (b := b2) (s := s) (w0 := W) isH ofH ofH_p hs (by omega) (by assumption) (by assumption) (by assumption)).mono ?_; rintro e w1 ⟨rfl, hr, hb⟩)
            have tok : True := trivial
            go_wp2_with (go_at_call 28; have _t := tok; clear tok; refine (take_ok (R := R) (a := b2) (b := b3) (s := s) (w0 := W) [112] (by decide) hs (by omega) (by assumption) (by assumption) (by assumption)).mono ?_; rintro e w1 ⟨rfl, hr, hb⟩)
            have tok : True := trivial
            go_wp2_with (go_at_call 32; have _t := tok; clear tok; refine (see_c (R := R) (a := b3) (s := s) (w0 := W) 45 false (by assumption) (by assumption) (by assumption)).mono ?_; rintro e w1 ⟨rfl, hr, hb⟩)
            have tok : True := trivial
            go_wp2_with (go_at_call 70; have _t := tok; clear tok; refine (dig_no (R := R) (a := b3) (b := b4) (s := s) (w0 := W) isD ofD ofD_p hs (by omega) (by assumption) (by assumption) (by assumption)).mono ?_; rintro e w1 ⟨he, hb⟩; subst he; simp only [Fa])
            exact ⟨rfl, by assumption, .inr ⟨b4, HF.out, rfl⟩⟩
      · have HF : Hid (sgn s.data.toList a = (false, b3)) := Lib.hid (SGN.trans (sg_3 k1 k2 k3))
        go_enter Tryz.func61, Tryz.ntmps61
        have tok : True := trivial
        go_wp2_with (go_at_call 32; have _t := tok; clear tok; refine (see_c (R := R) (a := a) (s := s) (w0 := W) 45 true (by assumption) (by assumption) (by assumption)).mono ?_; rintro e w1 ⟨rfl, hr, hb⟩; obtain ⟨y0, y1, y2⟩ := Rdr.cells hr)
        have hr3 : Rdr (w1.setCell ⟨R, 1, none⟩ (.int .i64 ((a : Int) + 1))) R s (a + 1) := Rdr.step (by assumption : Rdr w1 R s a) (a + 1)
        have hb3 : But [R] W (w1.setCell ⟨R, 1, none⟩ (.int .i64 ((a : Int) + 1))) := But.setCell (by assumption) _ _ (.inl (by simp))
        have tok : True := trivial
        go_wp2_with (go_at_call 32; have _t := tok; clear tok; refine (see_c (R := R) (a := (a + 1)) (s := s) (w0 := W) 105 false (by assumption) (by assumption) (by assumption)).mono ?_; rintro e w1 ⟨rfl, hr, hb⟩)
        have tok : True := trivial
        go_wp2_with (go_at_call 28; have _t := tok; clear tok; refine (take_ok (R := R) (a := (a + 1)) (b := b1) (s := s) (w0 := W) [48, 120] (by decide) hs (by omega) (by assumption) (by assumption) (by assumption)).mono ?_; rintro e w1 ⟨rfl, hr, hb⟩)
        have tok : True := trivial
        go_wp2_with (go_at_call 70; have _t := tok; clear tok; refine (dig_ok (R := R) (a := b1) (b := b2) (s := s) (w0 := W) isH ofH ofH_p hs (by omega) (by assumption) (by assumption) (by assumption)).mono ?_; rintro e w1 ⟨rfl, hr, hb⟩)
        have tok : True := trivial
        go_wp2_with (go_at_call 28; have _t := tok; clear tok; refine (take_no (R := R) (a := b2) (b := b3) (s := s) (w0 := W) [112] (by decide) hs (by omega) (by assumption) (by assumption) (by assumption)).mono ?_; rintro e w1 ⟨he, hb⟩; subst he; simp only [Fa])
        exact ⟨rfl, by assumption, .inr ⟨b3, HF.out, rfl⟩⟩
    · have HF : Hid (sgn s.data.toList a = (false, b2)) := Lib.hid (SGN.trans (sg_2 k1 k2))
      go_enter Tryz.func61, Tryz.ntmps61
      have tok : True := trivial
      go_wp2_with (go_at_call 32; have _t := tok; clear tok; refine (see_c (R := R) (a := a) (s := s) (w0 := W) 45 true (by assumption) (by assumption) (by assumption)).mono ?_; rintro e w1 ⟨rfl, hr, hb⟩; obtain ⟨y0, y1, y2⟩ := Rdr.cells hr)
      have hr3 : Rdr (w1.setCell ⟨R, 1, none⟩ (.int .i64 ((a : Int) + 1))) R s (a + 1) := Rdr.step (by assumption : Rdr w1 R s a) (a + 1)
      have hb3 : But [R] W (w1.setCell ⟨R, 1, none⟩ (.int .i64 ((a : Int) + 1))) := But.setCell (by assumption) _ _ (.inl (by simp))
      have tok : True := trivial
      go_wp2_with (go_at_call 32; have _t := tok; clear tok; refine (see_c (R := R) (a := (a + 1)) (s := s) (w0 := W) 105 false (by assumption) (by assumption) (by assumption)).mono ?_; rintro e w1 ⟨rfl, hr, hb⟩)
      have tok : True := trivial
      go_wp2_with (go_at_call 28; have _t := tok; clear tok; refine (take_ok (R := R) (a := (a + 1)) (b := b1) (s := s) (w0 := W) [48, 120] (by decide) hs (by omega) (by assumption) (by assumption) (by assumption)).mono ?_; rintro e w1 ⟨rfl, hr, hb⟩)
      have tok : True := trivial
      go_wp2_with (go_at_call 70; have _t := tok; clear tok; refine (dig_no (R := R) (a := b1) (b := b2) (s := s) (w0 := W) isH ofH ofH_p hs (by omega) (by assumption) (by assumption) (by assumption)).mono ?_; rintro e w1 ⟨he, hb⟩; subst he; simp only [Fa])
      exact ⟨rfl, by assumption, .inr ⟨b2, HF.out, rfl⟩⟩
  · have HF : Hid (sgn s.data.toList a = (false, b1)) := Lib.hid (SGN.trans (sg_1 k1))
    go_enter Tryz.func61, Tryz.ntmps61
    have tok : True := trivial
    go_wp2_with (go_at_call 32; have _t := tok; clear tok; refine (see_c (R := R) (a := a) (s := s) (w0 := W) 45 true (by assumption) (by assumption) (by assumption)).mono ?_; rintro e w1 ⟨rfl, hr, hb⟩; obtain ⟨y0, y1, y2⟩ := Rdr.cells hr)
    have hr3 : Rdr (w1.setCell ⟨R, 1, none⟩ (.int .i64 ((a : Int) + 1))) R s (a + 1) := Rdr.step (by assumption : Rdr w1 R s a) (a + 1)
    have hb3 : But [R] W (w1.setCell ⟨R, 1, none⟩ (.int .i64 ((a : Int) + 1))) := But.setCell (by assumption) _ _ (.inl (by simp))
    have tok : True := trivial
    go_wp2_with (go_at_call 32; have _t := tok; clear tok; refine (see_c (R := R) (a := (a + 1)) (s := s) (w0 := W) 105 false (by assumption) (by assumption) (by assumption)).mono ?_; rintro e w1 ⟨rfl, hr, hb⟩)
    have tok : True := trivial
    go_wp2_with (go_at_call 28; have _t := tok; clear tok; refine (take_no (R := R) (a := (a + 1)) (b := b1) (s := s) (w0 := W) [48, 120] (by decide) hs (by omega) (by assumption) (by assumption) (by assumption)).mono ?_; rintro e w1 ⟨he, hb⟩; subst he; simp only [Fa])
    exact ⟨rfl, by assumption, .inr ⟨b1, HF.out, rfl⟩⟩

set_option linter.unusedSimpArgs false in
set_option maxRecDepth 100000 in
set_option maxHeartbeats 2000000 in
theorem signed_d (R a : Nat) (s : ByteArray) (hs : s.size ≤ 4294967280) (ha : a ≤ s.size) (W : World) (h : Rdr W R s a) (g0 : s.data.toList[a]? = some 45) (g1 : s.data.toList[a + 1]? = some 105) : Calls Tryz.prog 61 #[.pointer (some ⟨R, 0, none⟩)] W fun e w' => But [R] W w' ∧ ((∃ b, sgn s.data.toList a = (true, b) ∧ e = .returned (.tuple #[]) ∧ Rdr w' R s b) ∨ (∃ b, sgn s.data.toList a = (false, b) ∧ e = Fa b 12)) := by
  have HA := ha
  have hb0 : But [R] W W := But.refl _ _
  have SGN := sgn_a g0 g1
  have d0 := decide_eq_true g0
  have d1 := decide_eq_true g1
  have hl : s.data.toList.length = s.size := by simp
  have la : a + 1 ≤ s.size := by have := (List.getElem?_eq_some_iff.1 g0).1; rw [hl] at this; omega
  have e0 : IntKind.i64.wrap ((a : Int) + 1) = (a : Int) + 1 := by rw [IntKind.wrap_i64]; omega
  rcases pair (x := tk s.data.toList [105, 110, 102] (a + 1)) with ⟨b1, k1⟩ | ⟨b1, k1⟩
  · have HF : Hid (sgn s.data.toList a = (true, b1)) := Lib.hid (SGN.trans k1)
    go_enter Tryz.func61, Tryz.ntmps61
    have tok : True := trivial
    go_wp2_with (go_at_call 32; have _t := tok; clear tok; refine (see_c (R := R) (a := a) (s := s) (w0 := W) 45 true (by assumption) (by assumption) (by assumption)).mono ?_; rintro e w1 ⟨rfl, hr, hb⟩; obtain ⟨y0, y1, y2⟩ := Rdr.cells hr)
    have hr3 : Rdr (w1.setCell ⟨R, 1, none⟩ (.int .i64 ((a : Int) + 1))) R s (a + 1) := Rdr.step (by assumption : Rdr w1 R s a) (a + 1)
    have hb3 : But [R] W (w1.setCell ⟨R, 1, none⟩ (.int .i64 ((a : Int) + 1))) := But.setCell (by assumption) _ _ (.inl (by simp))
    have tok : True := trivial
    go_wp2_with (go_at_call 32; have _t := tok; clear tok; refine (see_c (R := R) (a := (a + 1)) (s := s) (w0 := W) 105 true (by assumption) (by assumption) (by assumption)).mono ?_; rintro e w1 ⟨rfl, hr, hb⟩)
    have tok : True := trivial
    go_wp2_with (go_at_call 28; have _t := tok; clear tok; refine (take_ok (R := R) (a := (a + 1)) (b := b1) (s := s) (w0 := W) [105, 110, 102] (by decide) hs (by omega) (by assumption) (by assumption) (by assumption)).mono ?_; rintro e w1 ⟨rfl, hr, hb⟩)
    refine bodyPost_ret (results_none rfl _ _ _) rfl ?_
    exact ⟨by assumption, .inl ⟨b1, HF.out, rfl, by assumption⟩⟩
  · have HF : Hid (sgn s.data.toList a = (false, b1)) := Lib.hid (SGN.trans k1)
    go_enter Tryz.func61, Tryz.ntmps61
    have tok : True := trivial
    go_wp2_with (go_at_call 32; have _t := tok; clear tok; refine (see_c (R := R) (a := a) (s := s) (w0 := W) 45 true (by assumption) (by assumption) (by assumption)).mono ?_; rintro e w1 ⟨rfl, hr, hb⟩; obtain ⟨y0, y1, y2⟩ := Rdr.cells hr)
    have hr3 : Rdr (w1.setCell ⟨R, 1, none⟩ (.int .i64 ((a : Int) + 1))) R s (a + 1) := Rdr.step (by assumption : Rdr w1 R s a) (a + 1)
    have hb3 : But [R] W (w1.setCell ⟨R, 1, none⟩ (.int .i64 ((a : Int) + 1))) := But.setCell (by assumption) _ _ (.inl (by simp))
    have tok : True := trivial
    go_wp2_with (go_at_call 32; have _t := tok; clear tok; refine (see_c (R := R) (a := (a + 1)) (s := s) (w0 := W) 105 true (by assumption) (by assumption) (by assumption)).mono ?_; rintro e w1 ⟨rfl, hr, hb⟩)
    have tok : True := trivial
    go_wp2_with (go_at_call 28; have _t := tok; clear tok; refine (take_no (R := R) (a := (a + 1)) (b := b1) (s := s) (w0 := W) [105, 110, 102] (by decide) hs (by omega) (by assumption) (by assumption) (by assumption)).mono ?_; rintro e w1 ⟨he, hb⟩; subst he; simp only [Fa])
    exact ⟨rfl, by assumption, .inr ⟨b1, HF.out, rfl⟩⟩

set_option linter.unusedSimpArgs false in
set_option maxRecDepth 100000 in
set_option maxHeartbeats 2000000 in
theorem rsigned_any (R a : Nat) (s : ByteArray) (hs : s.size ≤ 4294967280) (ha : a ≤ s.size) (W : World) (h : Rdr W R s a) : Calls Tryz.prog 61 #[.pointer (some ⟨R, 0, none⟩)] W fun e w' => But [R] W w' ∧ ((∃ b, sgn s.data.toList a = (true, b) ∧ e = .returned (.tuple #[]) ∧ Rdr w' R s b) ∨ (∃ b, sgn s.data.toList a = (false, b) ∧ e = Fa b 12)) := by
  by_cases g0 : s.data.toList[a]? = some 45
  · by_cases g1 : s.data.toList[a + 1]? = some 105
    · exact signed_d R a s hs ha W h g0 g1
    · exact signed_c R a s hs ha W h g0 g1
  · exact signed_b R a s hs ha W h g0

set_option linter.unusedSimpArgs false in
set_option maxRecDepth 100000 in
theorem end_any (R a : Nat) (s : ByteArray) (w : World) (h : Rdr w R s a) : Calls Tryz.prog 47 #[.pointer (some ⟨R, 0, none⟩)] w fun e w' => But [] w w' ∧ ((a < s.size ∧ e = Fa a 12) ∨ (¬ a < s.size ∧ e = .returned (.tuple #[]))) := by
  obtain ⟨c0, c1, _⟩ := h.cells
  by_cases ha : a < s.size
  · have t1 : decide ((a : Int) < (s.size : Int)) = true := by simp; omega
    go_enter Tryz.func47, Tryz.ntmps47
    go_wp2_with fail
    go_quiet (fail)
    go_wp2_with (go_at_call 58; refine (fail_any R a s _ (h.keep ((But.refl [] w).drewN _) (by simp))).mono ?_; rintro e w2 ⟨he, rfl⟩; subst he; simp only [Fa])
    exact ⟨rfl, (But.refl _ _).drewN _, .inl ⟨ha, rfl⟩⟩
  · have t1 : decide ((a : Int) < (s.size : Int)) = false := by simp; omega
    go_enter Tryz.func47, Tryz.ntmps47
    go_wp2_with fail
    go_quiet (fail)
    go_wp2_with fail
    go_end0
    exact ⟨(But.refl _ _).drewN _, .inr ⟨ha, rfl⟩⟩

end Go.Proofs.YtnghppgpdeghfaaGreatDoor
