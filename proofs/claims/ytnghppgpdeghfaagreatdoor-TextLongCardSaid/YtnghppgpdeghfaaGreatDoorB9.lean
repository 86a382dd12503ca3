/- The reference's reader: steps in a chain; what float answers. -/
import Derived.Test.YtnghppgpdeghfaaGreatDoorB8
import Derived.Test.YtnghppgpdeghfaaGreatDoorB7
namespace Go.Proofs.YtnghppgpdeghfaaGreatDoor
open Go.RowKit Go.Proofs.YtnghppgpdeghfaaGreatDoor.Fl Go.Proofs.YtnghppgpdeghfaaGreatDoor.Pt Go.Proofs.YtnghppgpdeghfaaGreatDoor.Tx

/-- What run reads. -/
def rdg (hex nz : Bool) (L : List UInt8) (a : Nat) : Bool × Nat := if nz = true ∧ L[a]? = some 48 then (false, a) else dg (if hex then isH else isD) L a
section
variable {Q a b p : Nat} {s : ByteArray} {w0 w : World}
theorem is_c (c : UInt8) (x : Bool) (h : Rr w Q s a 0 0) (hb : But [Q] w0 w) (hx : decide (s.data.toList[a]? = some c) = x) : Calls Tryz.prog 42 #[.pointer (some ⟨Q, 0, none⟩), .int .u8 (c.toNat : Int)] w fun e w' => e = .returned (.bool x) ∧ Rr w' Q s a 0 0 ∧ But [Q] w0 w' :=
  (ris_on Q a 0 s c x hx w h).mono fun _ _ ⟨h1, h2⟩ => ⟨h1, h.keep h2 (by simp), hb.trans (h2.weak (by simp))⟩
theorem is_f (c : UInt8) (h : Rr w Q s a 12 p) (hb : But [Q] w0 w) : Calls Tryz.prog 42 #[.pointer (some ⟨Q, 0, none⟩), .int .u8 (c.toNat : Int)] w fun e w' => e = .returned (.bool false) ∧ Rr w' Q s a 12 p ∧ But [Q] w0 w' :=
  (ris_off Q a p 12 rfl s c w h).mono fun _ _ ⟨h1, h2⟩ => ⟨h1, h.keep h2 (by simp), hb.trans (h2.weak (by simp))⟩
theorem wt_ok (t : List UInt8) (ht : t.length ≤ 100) (hs : s.size ≤ 65536) (ha : a ≤ s.size) (h : Rr w Q s a 0 0) (hb : But [Q] w0 w) (hk : tk s.data.toList t a = (true, b)) : Calls Tryz.prog 34 #[.pointer (some ⟨Q, 0, none⟩), .string (str t)] w fun e w' => e = .returned (.tuple #[]) ∧ Rr w' Q s b 0 0 ∧ But [Q] w0 w' := by
  refine (rwant_on Q a s t ht hs ha w h).mono ?_
  rintro e w' ⟨h1, h2, ⟨c, h3, h4⟩ | ⟨c, h3, h4⟩⟩
  · rw [hk] at h3; cases h3; exact ⟨h1, h4, hb.trans h2⟩
  · rw [hk] at h3; cases h3
theorem wt_no (t : List UInt8) (ht : t.length ≤ 100) (hs : s.size ≤ 65536) (ha : a ≤ s.size) (h : Rr w Q s a 0 0) (hb : But [Q] w0 w) (hk : tk s.data.toList t a = (false, b)) : Calls Tryz.prog 34 #[.pointer (some ⟨Q, 0, none⟩), .string (str t)] w fun e w' => e = .returned (.tuple #[]) ∧ Rr w' Q s b 12 b ∧ But [Q] w0 w' := by
  refine (rwant_on Q a s t ht hs ha w h).mono ?_
  rintro e w' ⟨h1, h2, ⟨c, h3, h4⟩ | ⟨c, h3, h4⟩⟩
  · rw [hk] at h3; cases h3
  · rw [hk] at h3; cases h3; exact ⟨h1, h4, hb.trans h2⟩
/-- Either way. -/
theorem wt_any (t : List UInt8) (ht : t.length ≤ 100) (hs : s.size ≤ 65536) (ha : a ≤ s.size) (h : Rr w Q s a 0 0) (hb : But [Q] w0 w) : Calls Tryz.prog 34 #[.pointer (some ⟨Q, 0, none⟩), .string (str t)] w fun e w' => e = .returned (.tuple #[]) ∧ Hid ((∃ b, tk s.data.toList t a = (true, b) ∧ Rr w' Q s b 0 0) ∨ (∃ b, tk s.data.toList t a = (false, b) ∧ Rr w' Q s b 12 b)) ∧ But [Q] w0 w' :=
  (rwant_on Q a s t ht hs ha w h).mono fun _ _ ⟨h1, h2, h3⟩ => ⟨h1, Lib.hid h3, hb.trans h2⟩
theorem wt_f (t : List UInt8) (ht : t.length ≤ 100) (h : Rr w Q s a 12 p) (hb : But [Q] w0 w) : Calls Tryz.prog 34 #[.pointer (some ⟨Q, 0, none⟩), .string (str t)] w fun e w' => e = .returned (.tuple #[]) ∧ Rr w' Q s a 12 p ∧ But [Q] w0 w' :=
  (rwant_off Q a p 12 rfl s t ht w h).mono fun _ _ ⟨h1, h2⟩ => ⟨h1, h.keep h2 (by simp), hb.trans (h2.weak (by simp))⟩
theorem ru_f (hex nz : Bool) (h : Rr w Q s a 12 p) (hb : But [Q] w0 w) : Calls Tryz.prog 79 #[.pointer (some ⟨Q, 0, none⟩), .bool hex, .bool nz] w fun e w' => e = .returned (.string (str [])) ∧ Rr w' Q s a 12 p ∧ But [Q] w0 w' :=
  (rrun_off Q a p 12 rfl s hex nz w h).mono fun _ _ ⟨h1, h2⟩ => ⟨h1, h.keep h2 (by simp), hb.trans (h2.weak (by simp))⟩
theorem rr_ite (hex : Bool) (c : UInt8) : (if hex then isH else isD) c = (if hex then isH c else isD c) := by cases hex <;> rfl
theorem ru_no (hex nz : Bool) (hs : s.size ≤ 65536) (ha : a ≤ s.size) (h : Rr w Q s a 0 0) (hb : But [Q] w0 w) (hk : rdg hex nz s.data.toList a = (false, b)) : Calls Tryz.prog 79 #[.pointer (some ⟨Q, 0, none⟩), .bool hex, .bool nz] w fun e w' => e = .returned (.string (str [])) ∧ Rr w' Q s b 12 b ∧ But [Q] w0 w' := by
  cases hc : s.data.toList[a]? with
  | none =>
    have hb' : b = a := by unfold rdg dg at hk; rw [hc] at hk; simp at hk; exact hk.symm
    rw [hb']
    refine (rrun_end Q a s hs ha hex nz w h (fun hlt => ?_)).mono fun _ _ ⟨h1, h2, h3⟩ => ⟨h1, h2, hb.trans h3⟩
    rw [get_eq s a hlt] at hc; cases hc
  | some c =>
    by_cases hp : (if hex then isH c else isD c) = true
    · by_cases h48 : c = 48
      · by_cases hnz : nz = true
        · have hb' : b = a := by unfold rdg at hk; rw [if_pos ⟨hnz, by rw [hc, h48]⟩] at hk; cases hk; rfl
          rw [hb']
          exact (rrun_nought Q a s hs ha hex nz w h hnz c h48 hc hp).mono fun _ _ ⟨h1, h2, h3⟩ => ⟨h1, h2, hb.trans h3⟩
        · subst h48
          unfold rdg dg at hk; rw [if_neg (fun e => hnz e.1), hc] at hk
          simp only [rr_ite, hp, if_true] at hk; cases hk
      · unfold rdg dg at hk; rw [if_neg (fun e => h48 (by rw [hc] at e; exact Option.some.inj e.2)), hc] at hk
        simp only [rr_ite, hp, if_true, h48, if_false] at hk; cases hk
    · have hb' : b = a := by
        unfold rdg dg at hk
        rw [hc] at hk
        simp only [rr_ite, hp] at hk
        split at hk <;> (cases hk; rfl)
      rw [hb']
      exact (rrun_not Q a s hs ha hex nz w h c hc (by simpa using hp)).mono fun _ _ ⟨h1, h2, h3⟩ => ⟨h1, h2, hb.trans h3⟩
theorem rdg_dg {hex nz : Bool} {L : List UInt8} {a b : Nat} (hk : rdg hex nz L a = (true, b)) : dg (if hex then isH else isD) L a = (true, b) := by
  unfold rdg at hk
  split at hk
  · cases hk
  · exact hk
theorem ru_ok (hex nz : Bool) (D : List UInt8) (hs : s.size ≤ 65536) (ha : a ≤ s.size) (h : Rr w Q s a 0 0) (hb : But [Q] w0 w) (hD : Is s.data.toList a D b) (hk : rdg hex nz s.data.toList a = (true, b)) : Calls Tryz.prog 79 #[.pointer (some ⟨Q, 0, none⟩), .bool hex, .bool nz] w fun e w' => e = .returned (.string (str D)) ∧ Rr w' Q s b 0 0 ∧ But [Q] w0 w' := by
  rw [← hD.piece, ← ext_eq]
  cases hc : s.data.toList[a]? with
  | none => have := rdg_dg hk; unfold dg at this; rw [hc] at this; cases this
  | some c =>
    have hd := rdg_dg hk
    unfold dg at hd
    rw [hc] at hd
    simp only [rr_ite] at hd
    by_cases hp : (if hex then isH c else isD c) = true
    · rw [if_pos hp] at hd
      by_cases h48 : c = 48
      · rw [if_pos h48] at hd
        have hb' : b = a + 1 := by cases hd; rfl
        have hnz : nz = false := by
          cases nz
          · rfl
          · unfold rdg at hk; rw [if_pos ⟨rfl, by rw [hc, h48]⟩] at hk; cases hk
        rw [hb']
        exact (rrun_lone Q a s hs ha hex nz w h hnz c h48 hc hp).mono fun _ _ ⟨h1, h2, h3⟩ => ⟨h1, h2, hb.trans h3⟩
      · rw [if_neg h48] at hd
        have hb' : rn (if hex then isH else isD) s.data.toList a = b := by cases hd; rfl
        exact (rrun_many Q a s hs ha hex nz w h c h48 hc hp b hb').mono fun _ _ ⟨h1, h2, h3⟩ => ⟨h1, h2, hb.trans h3⟩
    · rw [if_neg hp] at hd; cases hd
end
/-- What float answers. -/
def FlP (Q a : Nat) (s : ByteArray) (W : World) (r : Ending) (w' : World) : Prop := But [Q] W w' ∧ ∃ x v, r = .returned (.tuple #[.float .f64 x, .bool v]) ∧ x < 18446744073709551616 ∧
  ((∃ b, sf s.data.toList a = (true, b) ∧ Rr w' Q s b 0 0 ∧ (v = true → fl x = (s.data.toList.drop a).take (b - a)) ∧ (Rt ((s.data.toList.drop a).take (b - a)) → v = true)) ∨ (∃ b d, sf s.data.toList a = (false, b) ∧ Rr w' Q s d 12 b))
end Go.Proofs.YtnghppgpdeghfaaGreatDoor
