/- The reference's value, whole. The reference's reader: steps in a chain; what float answers. The reference's float: nan and the infinities. The reference's float: no minus. -/
import Derived.Test.YtnghppgpdeghfaaGreatDoorZf12
import Derived.Test.YtnghppgpdeghfaaGreatDoorZf10
namespace Go.Proofs.YtnghppgpdeghfaaGreatDoor
open Go.RowKit Go.Proofs.YtnghppgpdeghfaaGreatDoor.Fl Go.Proofs.YtnghppgpdeghfaaGreatDoor.Pt Go.Proofs.YtnghppgpdeghfaaGreatDoor.Tx

set_option linter.unusedSimpArgs false in
set_option maxRecDepth 100000 in
set_option maxHeartbeats 4000000 in
theorem value_long1 (neg bel : Bool) (M E : List UInt8) (h : 14 < M.length) (W : World) : Calls Tryz.prog 80 #[.bool neg, .string (str M), .bool bel, .string (str E)] W fun r w' => r = .returned (.tuple #[.float .f64 0, .bool false]) ∧ But [] W w' := by
  have s1 : (str M).size = M.length := rfl
  have s2 : (str E).size = E.length := rfl
  have q1 : decide ((14 : Int) < (M.length : Int)) = true := decide_eq_true (by omega)
  clear h
  go_enter Tryz.func80, Tryz.ntmps80
  go_wp2_with fail
  exact bodyPost_ret (results_tmp2 rfl _ _ _) rfl ⟨rfl, But.refl _ _⟩
set_option linter.unusedSimpArgs false in
set_option maxRecDepth 100000 in
set_option maxHeartbeats 4000000 in
theorem value_long2 (neg bel : Bool) (M E : List UInt8) (h1 : M.length ≤ 14) (h : 4 < E.length) (W : World) : Calls Tryz.prog 80 #[.bool neg, .string (str M), .bool bel, .string (str E)] W fun r w' => r = .returned (.tuple #[.float .f64 0, .bool false]) ∧ But [] W w' := by
  have s1 : (str M).size = M.length := rfl
  have s2 : (str E).size = E.length := rfl
  have q1 : decide ((14 : Int) < (M.length : Int)) = false := decide_eq_false (by omega)
  have q2 : decide ((4 : Int) < (E.length : Int)) = true := decide_eq_true (by omega)
  clear h1 h
  go_enter Tryz.func80, Tryz.ntmps80
  go_wp2_with fail
  exact bodyPost_ret (results_tmp2 rfl _ _ _) rfl ⟨rfl, But.refl _ _⟩

/-- The text behind the power's letter. -/
def pwT (bel : Bool) (E : List UInt8) : List UInt8 := (if bel then [45] else []) ++ E
theorem itoa_pw {z : Int} {bel : Bool} {E : List UInt8} (hE : ∀ c ∈ E, isD c = true) (h : pwT bel E = Lib.itoa z) : E = Lib.decDigits z.natAbs ∧ (if bel then -((decV 0 E : Nat) : Int) else ((decV 0 E : Nat) : Int)) = z := by
  have n45 : isD 45 = false := by decide
  unfold pwT Lib.itoa at h
  by_cases hz : z < 0
  · rw [if_pos hz] at h
    cases bel
    · have h' : E = 45 :: Lib.decDigits z.natAbs := by simpa using h
      have := hE 45 (by rw [h']; simp)
      rw [n45] at this; cases this
    · have h' : E = Lib.decDigits z.natAbs := by simpa using h
      refine ⟨h', ?_⟩
      rw [h', decV_dd, if_pos rfl]; omega
  · rw [if_neg hz] at h
    cases bel
    · have h' : E = Lib.decDigits z.toNat := by simpa using h
      have e : z.toNat = z.natAbs := by omega
      rw [e] at h'
      refine ⟨h', ?_⟩
      rw [h', decV_dd, if_neg (by decide)]; omega
    · have h' : 45 :: E = Lib.decDigits z.toNat := by simpa using h
      have := dd_isD z.toNat 45 (by rw [← h']; simp)
      rw [n45] at this; cases this
/-- What value answers. -/
def VaP (neg bel : Bool) (M E : List UInt8) (r : Ending) : Prop := ∃ x b, r = .returned (.tuple #[.float .f64 x, .bool b]) ∧ x < 18446744073709551616 ∧ (b = true → fl x = tok neg M (pwT bel E)) ∧ (∀ y, y < 18446744073709551616 → fl y = tok neg M (pwT bel E) → b = true ∧ x = y)
theorem value_core (neg bel : Bool) (M E : List UInt8) (hM : ∀ c ∈ M, isH c = true) (hE : ∀ c ∈ E, isD c = true) (hl1 : M.length ≤ 14) (hl2 : E.length ≤ 4) (P : Nat → Prop) (hL : ∀ W, Calls Tryz.prog 100 #[.float .f64 (RN (hexV 0 M) 1074), .int .i64 (if bel then -((decV 0 E : Nat) : Int) else ((decV 0 E : Nat) : Int))] W fun r w' => (∃ z, r = .returned (.float .f64 z) ∧ z < 9223372036854775808 ∧ P z) ∧ But [] W w') (W : World) :
    Calls Tryz.prog 80 #[.bool neg, .string (str M), .bool bel, .string (str E)] W fun r w' => (∃ z, r = .returned (.tuple #[.float .f64 (wd neg z), .bool (decide (fl (wd neg z) = tok neg M (pwT bel E)))]) ∧ z < 9223372036854775808 ∧ P z) ∧ But [] W w' := by
  have wp : ∀ z, wd false z = z := fun z => by unfold wd; rw [if_neg (by decide), Nat.zero_add]
  have wn : ∀ z, wd true z = z + 9223372036854775808 := fun z => by unfold wd; rw [if_pos rfl]; unfold SG; omega
  cases neg <;> cases bel
  · have := value_pa M E hM hE hl1 hl2 P hL W
    simpa [wp, tok, pwT] using this
  · have := value_pb M E hM hE hl1 hl2 P hL W
    simpa [wp, tok, pwT] using this
  · have := value_na M E hM hE hl1 hl2 P hL W
    simpa [wn, tok, pwT] using this
  · have := value_nb M E hM hE hl1 hl2 P hL W
    simpa [wn, tok, pwT] using this
theorem value_any (neg bel : Bool) (M E : List UInt8) (hM : ∀ c ∈ M, isH c = true) (hE : ∀ c ∈ E, isD c = true) (W : World) :
    Calls Tryz.prog 80 #[.bool neg, .string (str M), .bool bel, .string (str E)] W fun r w' => VaP neg bel M E r ∧ But [] W w' := by
  by_cases hx : ∃ y, y < 18446744073709551616 ∧ fl y = tok neg M (pwT bel E)
  · obtain ⟨y, hy, hfl⟩ := hx
    obtain ⟨hf, e1, e2, e3⟩ := tok_fl hM hfl hy
    obtain ⟨p1, p2, p3, p4, p5⟩ := parse hf
    obtain ⟨e4, e5⟩ := itoa_pw hE e3
    have l1 : M.length ≤ 14 := by rw [e2]; exact hexD_len 13 _ (by omega)
    have l2 : E.length ≤ 4 := by rw [e4]; exact dd_len 3 _ (by omega)
    have v1 : hexV 0 M = cm y := by rw [e2, hexV_hexD]
    have hlt : y % SG < SG := Nat.mod_lt _ (by decide)
    refine (value_core neg bel M E hM hE l1 l2 (fun z => z = y % SG) (fun W => ?_) W).mono ?_
    · rw [e5, v1]
      refine (rldexp_right (cm y) p1 (ce y) p2 p3 (by rw [← p5]; have := V_lt hf.2; rw [V_INF] at this; exact this) W).mono ?_
      rintro r w' ⟨rfl, hb⟩
      exact ⟨⟨_, rfl, by rw [p4]; exact hlt, p4⟩, hb⟩
    · rintro r w' ⟨⟨z, rfl, hz, hzz⟩, hb⟩
      have hw : wd neg z = y := by rw [hzz, e1, wd_self' hy]
      refine ⟨⟨_, _, rfl, by rw [hw]; exact hy, fun h => of_decide_eq_true h, fun y' hy' h' => ?_⟩, hb⟩
      rw [hw]
      obtain ⟨f', g1, g2, g3⟩ := tok_fl hM h' hy'
      obtain ⟨_, _, _, r4, _⟩ := parse f'
      obtain ⟨_, g5⟩ := itoa_pw hE g3
      have m1 : cm y = cm y' := by rw [← v1, g2, hexV_hexD]
      have m2 : ce y = ce y' := e5.symm.trans g5
      refine ⟨decide_eq_true hfl, ?_⟩
      rw [← wd_self' hy, ← wd_self' hy', ← e1, ← g1, ← p4, ← r4, m1, m2]
  · have hno : ∀ x, x < 18446744073709551616 → ¬ fl x = tok neg M (pwT bel E) := fun x h1 h2 => hx ⟨x, h1, h2⟩
    by_cases l1 : M.length ≤ 14
    · by_cases l2 : E.length ≤ 4
      · have hd := decV_lt E hE l2
        refine (value_core neg bel M E hM hE l1 l2 (fun _ => True) (fun W => ?_) W).mono ?_
        · refine (rldexp_any (hexV 0 M) (hexV_lt M hM l1) _ (by split <;> omega) (by split <;> omega) W).mono ?_
          rintro r w' ⟨⟨z, rfl, hz⟩, hb⟩
          exact ⟨⟨z, rfl, hz, trivial⟩, hb⟩
        · rintro r w' ⟨⟨z, rfl, hz, _⟩, hb⟩
          have hw : wd neg z < 18446744073709551616 := wd_lt neg hz
          exact ⟨⟨_, _, rfl, hw, fun h => of_decide_eq_true h, fun y hy h => absurd h (hno y hy)⟩, hb⟩
      · refine (value_long2 neg bel M E l1 (by omega) W).mono ?_
        rintro r w' ⟨rfl, hb⟩
        exact ⟨⟨_, _, rfl, by decide, (fun h => absurd h (by decide)), fun y hy h => absurd h (hno y hy)⟩, hb⟩
    · refine (value_long1 neg bel M E (by omega) W).mono ?_
      rintro r w' ⟨rfl, hb⟩
      exact ⟨⟨_, _, rfl, by decide, (fun h => absurd h (by decide)), fun y hy h => absurd h (hno y hy)⟩, hb⟩
end Go.Proofs.YtnghppgpdeghfaaGreatDoor
namespace Go.Proofs.YtnghppgpdeghfaaGreatDoor
open Go.RowKit Go.Proofs.YtnghppgpdeghfaaGreatDoor.Fl Go.Proofs.YtnghppgpdeghfaaGreatDoor.Pt Go.Proofs.YtnghppgpdeghfaaGreatDoor.Tx

/-- What run reads. -/
def rdg (hex nz : Bool) (L : List UInt8) (a : Nat) : Bool × Nat := if nz = true ∧ L[a]? = some 48 then (false, a) else dg (if hex then isH else isD) L a
section
variable {Q a b p : Nat} {s : ByteArray} {w0 w : World}
theorem is_c (c : UInt8) (x : Bool) (h : Rr w Q s a 0 0) (hb : But [Q] w0 w) (hx : decide (s.data.toList[a]? = some c) = x) : Calls Tryz.prog 42 #[.pointer (some ⟨Q, 0, none⟩), .int .u8 (c.toNat : Int)] w fun e w' => e = .returned (.bool x) ∧ Rr w' Q s a 0 0 ∧ But [Q] w0 w' :=
  (ris_on Q a 0 s c x hx w h).mono fun _ _ ⟨h1, h2⟩ => ⟨h1, h.keep h2 (by simp), hb.trans (h2.weak (by simp))⟩
theorem is_f (c : UInt8) (h : Rr w Q s a 12 p) (hb : But [Q] w0 w) : Calls Tryz.prog 42 #[.pointer (some ⟨Q, 0, none⟩), .int .u8 (c.toNat : Int)] w fun e w' => e = .returned (.bool false) ∧ Rr w' Q s a 12 p ∧ But [Q] w0 w' :=
  (ris_off Q a p 12 rfl s c w h).mono fun _ _ ⟨h1, h2⟩ => ⟨h1, h.keep h2 (by simp), hb.trans (h2.weak (by simp))⟩
theorem wt_ok (t : List UInt8) (ht : t.length ≤ 100) (hs : s.size ≤ 65536) (ha : a ≤ s.size) (h : Rr w Q s a 0 0) (hb : But [Q] w0 w) (hk : tk s.data.toList t a = (true, b)) : Calls Tryz.prog 34 #[.pointer (some ⟨Q, 0, none⟩), .string (str t)] w fun e w' => e = .returned (.tuple #[]) ∧ Rr w' Q s b 0 0 ∧ But [Q] w0 w' := by
  refine (rwant_on Q a s t ht hs ha w h).mono ?_
  rintro e w' ⟨h1, h2, ⟨c, h3, h4⟩ | ⟨c, h3, h4⟩⟩
  · rw [hk] at h3; cases h3; exact ⟨h1, h4, hb.trans h2⟩
  · rw [hk] at h3; cases h3
theorem wt_no (t : List UInt8) (ht : t.length ≤ 100) (hs : s.size ≤ 65536) (ha : a ≤ s.size) (h : Rr w Q s a 0 0) (hb : But [Q] w0 w) (hk : tk s.data.toList t a = (false, b)) : Calls Tryz.prog 34 #[.pointer (some ⟨Q, 0, none⟩), .string (str t)] w fun e w' => e = .returned (.tuple #[]) ∧ Rr w' Q s b 12 b ∧ But [Q] w0 w' := by
  refine (rwant_on Q a s t ht hs ha w h).mono ?_
  rintro e w' ⟨h1, h2, ⟨c, h3, h4⟩ | ⟨c, h3, h4⟩⟩
  · rw [hk] at h3; cases h3
  · rw [hk] at h3; cases h3; exact ⟨h1, h4, hb.trans h2⟩
/-- Either way. -/
theorem wt_any (t : List UInt8) (ht : t.length ≤ 100) (hs : s.size ≤ 65536) (ha : a ≤ s.size) (h : Rr w Q s a 0 0) (hb : But [Q] w0 w) : Calls Tryz.prog 34 #[.pointer (some ⟨Q, 0, none⟩), .string (str t)] w fun e w' => e = .returned (.tuple #[]) ∧ Hid ((∃ b, tk s.data.toList t a = (true, b) ∧ Rr w' Q s b 0 0) ∨ (∃ b, tk s.data.toList t a = (false, b) ∧ Rr w' Q s b 12 b)) ∧ But [Q] w0 w' :=
  (rwant_on Q a s t ht hs ha w h).mono fun _ _ ⟨h1, h2, h3⟩ => ⟨h1, Lib.hid h3, hb.trans h2⟩
theorem wt_f (t : List UInt8) (ht : t.length ≤ 100) (h : Rr w Q s a 12 p) (hb : But [Q] w0 w) : Calls Tryz.prog 34 #[.pointer (some ⟨Q, 0, none⟩), .string (str t)] w fun e w' => e = .returned (.tuple #[]) ∧ Rr w' Q s a 12 p ∧ But [Q] w0 w' :=
  (rwant_off Q a p 12 rfl s t ht w h).mono fun _ _ ⟨h1, h2⟩ => ⟨h1, h.keep h2 (by simp), hb.trans (h2.weak (by simp))⟩
theorem ru_f (hex nz : Bool) (h : Rr w Q s a 12 p) (hb : But [Q] w0 w) : Calls Tryz.prog 79 #[.pointer (some ⟨Q, 0, none⟩), .bool hex, .bool nz] w fun e w' => e = .returned (.string (str [])) ∧ Rr w' Q s a 12 p ∧ But [Q] w0 w' :=
  (rrun_off Q a p 12 rfl s hex nz w h).mono fun _ _ ⟨h1, h2⟩ => ⟨h1, h.keep h2 (by simp), hb.trans (h2.weak (by simp))⟩
theorem rr_ite (hex : Bool) (c : UInt8) : (if hex then isH else isD) c = (if hex then isH c else isD c) := by cases hex <;> rfl
theorem ru_no (hex nz : Bool) (hs : s.size ≤ 65536) (ha : a ≤ s.size) (h : Rr w Q s a 0 0) (hb : But [Q] w0 w) (hk : rdg hex nz s.data.toList a = (false, b)) : Calls Tryz.prog 79 #[.pointer (some ⟨Q, 0, none⟩), .bool hex, .bool nz] w fun e w' => e = .returned (.string (str [])) ∧ Rr w' Q s b 12 b ∧ But [Q] w0 w' := by
  cases hc : s.data.toList[a]? with
  | none =>
    have hb' : b = a := by unfold rdg dg at hk; rw [hc] at hk; simp at hk; exact hk.symm
    rw [hb']
    refine (rrun_end Q a s hs ha hex nz w h (fun hlt => ?_)).mono fun _ _ ⟨h1, h2, h3⟩ => ⟨h1, h2, hb.trans h3⟩
    rw [get_eq s a hlt] at hc; cases hc
  | some c =>
    by_cases hp : (if hex then isH c else isD c) = true
    · by_cases h48 : c = 48
      · by_cases hnz : nz = true
        · have hb' : b = a := by unfold rdg at hk; rw [if_pos ⟨hnz, by rw [hc, h48]⟩] at hk; cases hk; rfl
          rw [hb']
          exact (rrun_nought Q a s hs ha hex nz w h hnz c h48 hc hp).mono fun _ _ ⟨h1, h2, h3⟩ => ⟨h1, h2, hb.trans h3⟩
        · subst h48
          unfold rdg dg at hk; rw [if_neg (fun e => hnz e.1), hc] at hk
          simp only [rr_ite, hp, if_true] at hk; cases hk
      · unfold rdg dg at hk; rw [if_neg (fun e => h48 (by rw [hc] at e; exact Option.some.inj e.2)), hc] at hk
        simp only [rr_ite, hp, if_true, h48, if_false] at hk; cases hk
    · have hb' : b = a := by
        unfold rdg dg at hk
        rw [hc] at hk
        simp only [rr_ite, hp] at hk
        split at hk <;> (cases hk; rfl)
      rw [hb']
      exact (rrun_not Q a s hs ha hex nz w h c hc (by simpa using hp)).mono fun _ _ ⟨h1, h2, h3⟩ => ⟨h1, h2, hb.trans h3⟩
theorem rdg_dg {hex nz : Bool} {L : List UInt8} {a b : Nat} (hk : rdg hex nz L a = (true, b)) : dg (if hex then isH else isD) L a = (true, b) := by
  unfold rdg at hk
  split at hk
  · cases hk
  · exact hk
theorem ru_ok (hex nz : Bool) (D : List UInt8) (hs : s.size ≤ 65536) (ha : a ≤ s.size) (h : Rr w Q s a 0 0) (hb : But [Q] w0 w) (hD : Is s.data.toList a D b) (hk : rdg hex nz s.data.toList a = (true, b)) : Calls Tryz.prog 79 #[.pointer (some ⟨Q, 0, none⟩), .bool hex, .bool nz] w fun e w' => e = .returned (.string (str D)) ∧ Rr w' Q s b 0 0 ∧ But [Q] w0 w' := by
  rw [← hD.piece, ← ext_eq]
  cases hc : s.data.toList[a]? with
  | none => have := rdg_dg hk; unfold dg at this; rw [hc] at this; cases this
  | some c =>
    have hd := rdg_dg hk
    unfold dg at hd
    rw [hc] at hd
    simp only [rr_ite] at hd
    by_cases hp : (if hex then isH c else isD c) = true
    · rw [if_pos hp] at hd
      by_cases h48 : c = 48
      · rw [if_pos h48] at hd
        have hb' : b = a + 1 := by cases hd; rfl
        have hnz : nz = false := by
          cases nz
          · rfl
          · unfold rdg at hk; rw [if_pos ⟨rfl, by rw [hc, h48]⟩] at hk; cases hk
        rw [hb']
        exact (rrun_lone Q a s hs ha hex nz w h hnz c h48 hc hp).mono fun _ _ ⟨h1, h2, h3⟩ => ⟨h1, h2, hb.trans h3⟩
      · rw [if_neg h48] at hd
        have hb' : rn (if hex then isH else isD) s.data.toList a = b := by cases hd; rfl
        exact (rrun_many Q a s hs ha hex nz w h c h48 hc hp b hb').mono fun _ _ ⟨h1, h2, h3⟩ => ⟨h1, h2, hb.trans h3⟩
    · rw [if_neg hp] at hd; cases hd
end
/-- What float answers. -/
def FlP (Q a : Nat) (s : ByteArray) (W : World) (r : Ending) (w' : World) : Prop := But [Q] W w' ∧ ∃ x v, r = .returned (.tuple #[.float .f64 x, .bool v]) ∧ x < 18446744073709551616 ∧
  ((∃ b, sf s.data.toList a = (true, b) ∧ Rr w' Q s b 0 0 ∧ (v = true → fl x = (s.data.toList.drop a).take (b - a)) ∧ (Rt ((s.data.toList.drop a).take (b - a)) → v = true)) ∨ (∃ b d, sf s.data.toList a = (false, b) ∧ Rr w' Q s d 12 b))
end Go.Proofs.YtnghppgpdeghfaaGreatDoor
namespace Go.Proofs.YtnghppgpdeghfaaGreatDoor
open Go.RowKit Go.Proofs.YtnghppgpdeghfaaGreatDoor.Fl Go.Proofs.YtnghppgpdeghfaaGreatDoor.Pt Go.Proofs.YtnghppgpdeghfaaGreatDoor.Tx

theorem nan_call (w : World) : Calls Tryz.prog 77 #[] w fun e w' => e = .returned (.float .f64 9221120237041090561) ∧ w' = w := by
  go_enter Tryz.func77, Tryz.ntmps77
  go_wp2
  go_ret
  exact ⟨rfl, rfl⟩
theorem inf_minus (w : World) : Calls Tryz.prog 78 #[.int .i64 (-1)] w fun e w' => e = .returned (.float .f64 18442240474082181120) ∧ w' = w := by
  go_enter Tryz.func78, Tryz.ntmps78
  go_wp2
  go_ret
  exact ⟨rfl, rfl⟩
set_option linter.unusedSimpArgs false in
set_option maxRecDepth 100000 in
set_option maxHeartbeats 4000000 in
theorem rf_nan (Q a : Nat) (s : ByteArray) (hs : s.size ≤ 65536) (W : World) (h : Rr W Q s a 0 0) (ha : a ≤ s.size) (x1 : decide (s.data.toList[a]? = some 45) = false) (x2 : decide (s.data.toList[a]? = some 110) = true) (hsf : sf s.data.toList a = tk s.data.toList [110, 97, 110] a) : Calls Tryz.prog 63 #[.pointer (some ⟨Q, 0, none⟩)] W (FlP Q a s W) := by
  have hb0 := But.refl [Q] W
  have hr0 := h
  clear h
  have HS := Lib.hid hsf
  clear hsf
  go_enter Tryz.func63, Tryz.ntmps63
  have tok : True := trivial
  go_wp2_with (go_at_call 42; have _t := tok; clear tok; refine (is_c 45 false hr0 hb0 x1).mono ?_; rintro e w1 ⟨rfl, hr1, hb1⟩)
  have tok : True := trivial
  go_wp2_with (go_at_call 42; have _t := tok; clear tok; refine (is_c 110 true hr1 hb1 x2).mono ?_; rintro e w2 ⟨rfl, hr2, hb2⟩)
  have tok : True := trivial
  go_wp2_with (go_at_call 34; have _t := tok; clear tok; refine (wt_any [110, 97, 110] (by decide) hs ha hr2 hb2).mono ?_; rintro e w3 ⟨rfl, hr3, hb3⟩)
  go_wp2_with (go_at_call 77; refine (nan_call _).mono ?_; rintro e ww ⟨rfl, hww⟩; rw [hww]; clear hww ww)
  refine bodyPost_ret (results_tmp2 rfl _ _ _) rfl ⟨hb3, _, _, rfl, (by decide), ?_⟩
  have hfl : fl 9221120237041090561 = [110, 97, 110] := by decide +kernel
  rcases hr3.out with ⟨b, k, hr⟩ | ⟨b, k, hr⟩
  · refine .inl ⟨b, HS.out.trans k, hr, fun _ => ?_, fun _ => rfl⟩
    have hp : Is s.data.toList a [110, 97, 110] b := tk_is _ _ _ _ k
    rw [hp.piece]; exact hfl
  · exact .inr ⟨b, b, HS.out.trans k, hr⟩
set_option linter.unusedSimpArgs false in
set_option maxRecDepth 100000 in
set_option maxHeartbeats 4000000 in
theorem rf_inf (Q a : Nat) (s : ByteArray) (hs : s.size ≤ 65536) (W : World) (h : Rr W Q s a 0 0) (ha : a ≤ s.size) (x1 : decide (s.data.toList[a]? = some 45) = false) (x2 : decide (s.data.toList[a]? = some 110) = false) (x3 : decide (s.data.toList[a]? = some 105) = true) (hsf : sf s.data.toList a = tk s.data.toList [105, 110, 102] a) : Calls Tryz.prog 63 #[.pointer (some ⟨Q, 0, none⟩)] W (FlP Q a s W) := by
  have hb0 := But.refl [Q] W
  have hr0 := h
  clear h
  have HS := Lib.hid hsf
  clear hsf
  go_enter Tryz.func63, Tryz.ntmps63
  have tok : True := trivial
  go_wp2_with (go_at_call 42; have _t := tok; clear tok; refine (is_c 45 false hr0 hb0 x1).mono ?_; rintro e w1 ⟨rfl, hr1, hb1⟩)
  have tok : True := trivial
  go_wp2_with (go_at_call 42; have _t := tok; clear tok; refine (is_c 110 false hr1 hb1 x2).mono ?_; rintro e w2 ⟨rfl, hr2, hb2⟩)
  have tok : True := trivial
  go_wp2_with (go_at_call 42; have _t := tok; clear tok; refine (is_c 105 true hr2 hb2 x3).mono ?_; rintro e w3 ⟨rfl, hr3, hb3⟩)
  have tok : True := trivial
  go_wp2_with (go_at_call 34; have _t := tok; clear tok; refine (wt_any [105, 110, 102] (by decide) hs ha hr3 hb3).mono ?_; rintro e w4 ⟨rfl, hr4, hb4⟩)
  go_wp2_with (go_at_call 78; refine (inf_pos _).mono ?_; rintro e ww ⟨rfl, hww⟩; rw [hww]; clear hww ww)
  refine bodyPost_ret (results_tmp2 rfl _ _ _) rfl ⟨hb4, _, _, rfl, (by decide), ?_⟩
  have hfl : fl 9218868437227405312 = [105, 110, 102] := by decide +kernel
  rcases hr4.out with ⟨b, k, hr⟩ | ⟨b, k, hr⟩
  · refine .inl ⟨b, HS.out.trans k, hr, fun _ => ?_, fun _ => rfl⟩
    have hp : Is s.data.toList a [105, 110, 102] b := tk_is _ _ _ _ k
    rw [hp.piece]; exact hfl
  · exact .inr ⟨b, b, HS.out.trans k, hr⟩
set_option linter.unusedSimpArgs false in
set_option maxRecDepth 100000 in
set_option maxHeartbeats 4000000 in
theorem rf_infm (Q a : Nat) (s : ByteArray) (hs : s.size ≤ 65536) (W : World) (h : Rr W Q s a 0 0) (a1 : Nat) (ha1 : a1 = a + 1) (hal : a1 ≤ s.size) (x1 : decide (s.data.toList[a]? = some 45) = true) (x2 : decide (s.data.toList[a1]? = some 110) = false) (x3 : decide (s.data.toList[a1]? = some 105) = true) (hsf : sf s.data.toList a = tk s.data.toList [105, 110, 102] a1) (hI : Is s.data.toList a [45] a1) : Calls Tryz.prog 63 #[.pointer (some ⟨Q, 0, none⟩)] W (FlP Q a s W) := by
  have hb0 := But.refl [Q] W
  have hr0 := h
  have e1 : IntKind.i64.wrap ((a : Int) + 1) = (a1 : Int) := by rw [IntKind.wrap_i64]; omega
  clear ha1
  clear h
  have HS := Lib.hid hsf
  clear hsf
  have HI := Lib.hid hI
  clear hI
  go_enter Tryz.func63, Tryz.ntmps63
  have tok : True := trivial
  go_wp2_with (go_at_call 42; have _t := tok; clear tok; refine (is_c 45 true hr0 hb0 x1).mono ?_; rintro e w1 ⟨rfl, hr1, hb1⟩; obtain ⟨z0, z1, z2, z3, zf⟩ := hr1.cells; have zf1 := zf 1; clear zf)
  have hr2 := hr1.step a1
  have hb2 := hb1.setCell ⟨Q, 1, none⟩ (.int .i64 (a1 : Int)) (.inl (by simp))
  have tok : True := trivial
  go_wp2_with (go_at_call 42; have _t := tok; clear tok; refine (is_c 110 false hr2 hb2 x2).mono ?_; rintro e w3 ⟨rfl, hr3, hb3⟩)
  have tok : True := trivial
  go_wp2_with (go_at_call 42; have _t := tok; clear tok; refine (is_c 105 true hr3 hb3 x3).mono ?_; rintro e w4 ⟨rfl, hr4, hb4⟩)
  have tok : True := trivial
  go_wp2_with (go_at_call 34; have _t := tok; clear tok; refine (wt_any [105, 110, 102] (by decide) hs hal hr4 hb4).mono ?_; rintro e w5 ⟨rfl, hr5, hb5⟩)
  go_wp2_with (go_at_call 78; refine (inf_minus _).mono ?_; rintro e ww ⟨rfl, hww⟩; rw [hww]; clear hww ww)
  refine bodyPost_ret (results_tmp2 rfl _ _ _) rfl ⟨hb5, _, _, rfl, (by decide), ?_⟩
  have hfl : fl 18442240474082181120 = [45, 105, 110, 102] := by decide +kernel
  rcases hr5.out with ⟨b, k, hr⟩ | ⟨b, k, hr⟩
  · refine .inl ⟨b, HS.out.trans k, hr, fun _ => ?_, fun _ => rfl⟩
    have hp : Is s.data.toList a [45, 105, 110, 102] b := HI.out.trans (tk_is _ _ _ _ k)
    rw [hp.piece]; exact hfl
  · exact .inr ⟨b, b, HS.out.trans k, hr⟩

end Go.Proofs.YtnghppgpdeghfaaGreatDoor
namespace Go.Proofs.YtnghppgpdeghfaaGreatDoor
open Go.RowKit Go.Proofs.YtnghppgpdeghfaaGreatDoor.Fl Go.Proofs.YtnghppgpdeghfaaGreatDoor.Pt Go.Proofs.YtnghppgpdeghfaaGreatDoor.Tx

set_option linter.unusedSimpArgs false in
set_option maxRecDepth 100000 in
set_option maxHeartbeats 4000000 in
theorem rf_p1 (Q a : Nat) (s : ByteArray) (hs : s.size ≤ 65536) (W : World) (h : Rr W Q s a 0 0) (ha : a ≤ s.size) (x1 : decide (s.data.toList[a]? = some 45) = false) (x2 : decide (s.data.toList[a]? = some 110) = false) (x3 : decide (s.data.toList[a]? = some 105) = false) (b1 : Nat) (k1 : tk s.data.toList [48, 120] a = (false, b1)) (hsf : sf s.data.toList a = (false, b1)) : Calls Tryz.prog 63 #[.pointer (some ⟨Q, 0, none⟩)] W (FlP Q a s W) := by
  have hb0 := But.refl [Q] W
  have hr0 := h
  clear h
  have HS := Lib.hid hsf
  clear hsf
  go_enter Tryz.func63, Tryz.ntmps63
  have tok : True := trivial
  go_wp2_with (go_at_call 42; have _t := tok; clear tok; refine (is_c 45 false hr0 hb0 x1).mono ?_; rintro e w1 ⟨rfl, hr1, hb1⟩)
  have tok : True := trivial
  go_wp2_with (go_at_call 42; have _t := tok; clear tok; refine (is_c 110 false hr1 hb1 x2).mono ?_; rintro e w2 ⟨rfl, hr2, hb2⟩)
  have tok : True := trivial
  go_wp2_with (go_at_call 42; have _t := tok; clear tok; refine (is_c 105 false hr2 hb2 x3).mono ?_; rintro e w3 ⟨rfl, hr3, hb3⟩)
  have tok : True := trivial
  go_wp2_with (go_at_call 34; have _t := tok; clear tok; refine (wt_no [48, 120] (by decide) hs ha hr3 hb3 k1).mono ?_; rintro e w4 ⟨rfl, hr4, hb4⟩)
  have tok : True := trivial
  go_wp2_with (go_at_call 79; have _t := tok; clear tok; refine (ru_f true false hr4 hb4).mono ?_; rintro e w5 ⟨rfl, hr5, hb5⟩)
  have tok : True := trivial
  go_wp2_with (go_at_call 34; have _t := tok; clear tok; refine (wt_f [112] (by decide) hr5 hb5).mono ?_; rintro e w6 ⟨rfl, hr6, hb6⟩)
  have tok : True := trivial
  go_wp2_with (go_at_call 42; have _t := tok; clear tok; refine (is_f 45 hr6 hb6).mono ?_; rintro e w7 ⟨rfl, hr7, hb7⟩)
  have tok : True := trivial
  go_wp2_with (go_at_call 79; have _t := tok; clear tok; refine (ru_f false false hr7 hb7).mono ?_; rintro e w8 ⟨rfl, hr8, hb8⟩; obtain ⟨y0, y1, y2, y3, yf⟩ := hr8.cells; clear yf)
  exact bodyPost_ret (results_tmp2 rfl _ _ _) rfl ⟨hb8, _, _, rfl, (by decide), .inr ⟨b1, _, HS.out, hr8⟩⟩
set_option linter.unusedSimpArgs false in
set_option maxRecDepth 100000 in
set_option maxHeartbeats 4000000 in
theorem rf_p2 (Q a : Nat) (s : ByteArray) (hs : s.size ≤ 65536) (W : World) (h : Rr W Q s a 0 0) (ha : a ≤ s.size) (x1 : decide (s.data.toList[a]? = some 45) = false) (x2 : decide (s.data.toList[a]? = some 110) = false) (x3 : decide (s.data.toList[a]? = some 105) = false) (b1 : Nat) (k1 : tk s.data.toList [48, 120] a = (true, b1)) (l1 : b1 ≤ s.size) (b2 : Nat) (k2 : rdg true false s.data.toList b1 = (false, b2)) (hsf : sf s.data.toList a = (false, b2)) : Calls Tryz.prog 63 #[.pointer (some ⟨Q, 0, none⟩)] W (FlP Q a s W) := by
  have hb0 := But.refl [Q] W
  have hr0 := h
  clear h
  have HS := Lib.hid hsf
  clear hsf
  go_enter Tryz.func63, Tryz.ntmps63
  have tok : True := trivial
  go_wp2_with (go_at_call 42; have _t := tok; clear tok; refine (is_c 45 false hr0 hb0 x1).mono ?_; rintro e w1 ⟨rfl, hr1, hb1⟩)
  have tok : True := trivial
  go_wp2_with (go_at_call 42; have _t := tok; clear tok; refine (is_c 110 false hr1 hb1 x2).mono ?_; rintro e w2 ⟨rfl, hr2, hb2⟩)
  have tok : True := trivial
  go_wp2_with (go_at_call 42; have _t := tok; clear tok; refine (is_c 105 false hr2 hb2 x3).mono ?_; rintro e w3 ⟨rfl, hr3, hb3⟩)
  have tok : True := trivial
  go_wp2_with (go_at_call 34; have _t := tok; clear tok; refine (wt_ok [48, 120] (by decide) hs ha hr3 hb3 k1).mono ?_; rintro e w4 ⟨rfl, hr4, hb4⟩)
  have tok : True := trivial
  go_wp2_with (go_at_call 79; have _t := tok; clear tok; refine (ru_no true false hs l1 hr4 hb4 k2).mono ?_; rintro e w5 ⟨rfl, hr5, hb5⟩)
  have tok : True := trivial
  go_wp2_with (go_at_call 34; have _t := tok; clear tok; refine (wt_f [112] (by decide) hr5 hb5).mono ?_; rintro e w6 ⟨rfl, hr6, hb6⟩)
  have tok : True := trivial
  go_wp2_with (go_at_call 42; have _t := tok; clear tok; refine (is_f 45 hr6 hb6).mono ?_; rintro e w7 ⟨rfl, hr7, hb7⟩)
  have tok : True := trivial
  go_wp2_with (go_at_call 79; have _t := tok; clear tok; refine (ru_f false false hr7 hb7).mono ?_; rintro e w8 ⟨rfl, hr8, hb8⟩; obtain ⟨y0, y1, y2, y3, yf⟩ := hr8.cells; clear yf)
  exact bodyPost_ret (results_tmp2 rfl _ _ _) rfl ⟨hb8, _, _, rfl, (by decide), .inr ⟨b2, _, HS.out, hr8⟩⟩
set_option linter.unusedSimpArgs false in
set_option maxRecDepth 100000 in
set_option maxHeartbeats 4000000 in
theorem rf_p3 (Q a : Nat) (s : ByteArray) (hs : s.size ≤ 65536) (W : World) (h : Rr W Q s a 0 0) (ha : a ≤ s.size) (x1 : decide (s.data.toList[a]? = some 45) = false) (x2 : decide (s.data.toList[a]? = some 110) = false) (x3 : decide (s.data.toList[a]? = some 105) = false) (b1 : Nat) (k1 : tk s.data.toList [48, 120] a = (true, b1)) (l1 : b1 ≤ s.size) (b2 : Nat) (M : List UInt8) (hM : Is s.data.toList b1 M b2) (k2 : rdg true false s.data.toList b1 = (true, b2)) (l2 : b2 ≤ s.size) (b3 : Nat) (k3 : tk s.data.toList [112] b2 = (false, b3)) (hsf : sf s.data.toList a = (false, b3)) : Calls Tryz.prog 63 #[.pointer (some ⟨Q, 0, none⟩)] W (FlP Q a s W) := by
  have hb0 := But.refl [Q] W
  have hr0 := h
  clear h
  have HM := Lib.hid hM
  clear hM
  have HS := Lib.hid hsf
  clear hsf
  go_enter Tryz.func63, Tryz.ntmps63
  have tok : True := trivial
  go_wp2_with (go_at_call 42; have _t := tok; clear tok; refine (is_c 45 false hr0 hb0 x1).mono ?_; rintro e w1 ⟨rfl, hr1, hb1⟩)
  have tok : True := trivial
  go_wp2_with (go_at_call 42; have _t := tok; clear tok; refine (is_c 110 false hr1 hb1 x2).mono ?_; rintro e w2 ⟨rfl, hr2, hb2⟩)
  have tok : True := trivial
  go_wp2_with (go_at_call 42; have _t := tok; clear tok; refine (is_c 105 false hr2 hb2 x3).mono ?_; rintro e w3 ⟨rfl, hr3, hb3⟩)
  have tok : True := trivial
  go_wp2_with (go_at_call 34; have _t := tok; clear tok; refine (wt_ok [48, 120] (by decide) hs ha hr3 hb3 k1).mono ?_; rintro e w4 ⟨rfl, hr4, hb4⟩)
  have tok : True := trivial
  go_wp2_with (go_at_call 79; have _t := tok; clear tok; refine (ru_ok true false M hs l1 hr4 hb4 HM.out k2).mono ?_; rintro e w5 ⟨rfl, hr5, hb5⟩)
  have tok : True := trivial
  go_wp2_with (go_at_call 34; have _t := tok; clear tok; refine (wt_no [112] (by decide) hs l2 hr5 hb5 k3).mono ?_; rintro e w6 ⟨rfl, hr6, hb6⟩)
  have tok : True := trivial
  go_wp2_with (go_at_call 42; have _t := tok; clear tok; refine (is_f 45 hr6 hb6).mono ?_; rintro e w7 ⟨rfl, hr7, hb7⟩)
  have tok : True := trivial
  go_wp2_with (go_at_call 79; have _t := tok; clear tok; refine (ru_f false false hr7 hb7).mono ?_; rintro e w8 ⟨rfl, hr8, hb8⟩; obtain ⟨y0, y1, y2, y3, yf⟩ := hr8.cells; clear yf)
  exact bodyPost_ret (results_tmp2 rfl _ _ _) rfl ⟨hb8, _, _, rfl, (by decide), .inr ⟨b3, _, HS.out, hr8⟩⟩
set_option linter.unusedSimpArgs false in
set_option maxRecDepth 100000 in
set_option maxHeartbeats 4000000 in
theorem rf_p4a (Q a : Nat) (s : ByteArray) (hs : s.size ≤ 65536) (W : World) (h : Rr W Q s a 0 0) (ha : a ≤ s.size) (x1 : decide (s.data.toList[a]? = some 45) = false) (x2 : decide (s.data.toList[a]? = some 110) = false) (x3 : decide (s.data.toList[a]? = some 105) = false) (b1 : Nat) (k1 : tk s.data.toList [48, 120] a = (true, b1)) (l1 : b1 ≤ s.size) (b2 : Nat) (M : List UInt8) (hM : Is s.data.toList b1 M b2) (k2 : rdg true false s.data.toList b1 = (true, b2)) (l2 : b2 ≤ s.size) (b3 : Nat) (k3 : tk s.data.toList [112] b2 = (true, b3)) (l3 : b3 ≤ s.size) (x4 : decide (s.data.toList[b3]? = some 45) = false) (b5 : Nat) (k5 : rdg false false s.data.toList b3 = (false, b5)) (hsf : sf s.data.toList a = (false, b5)) : Calls Tryz.prog 63 #[.pointer (some ⟨Q, 0, none⟩)] W (FlP Q a s W) := by
  have hb0 := But.refl [Q] W
  have hr0 := h
  clear h
  have HM := Lib.hid hM
  clear hM
  have HS := Lib.hid hsf
  clear hsf
  go_enter Tryz.func63, Tryz.ntmps63
  have tok : True := trivial
  go_wp2_with (go_at_call 42; have _t := tok; clear tok; refine (is_c 45 false hr0 hb0 x1).mono ?_; rintro e w1 ⟨rfl, hr1, hb1⟩)
  have tok : True := trivial
  go_wp2_with (go_at_call 42; have _t := tok; clear tok; refine (is_c 110 false hr1 hb1 x2).mono ?_; rintro e w2 ⟨rfl, hr2, hb2⟩)
  have tok : True := trivial
  go_wp2_with (go_at_call 42; have _t := tok; clear tok; refine (is_c 105 false hr2 hb2 x3).mono ?_; rintro e w3 ⟨rfl, hr3, hb3⟩)
  have tok : True := trivial
  go_wp2_with (go_at_call 34; have _t := tok; clear tok; refine (wt_ok [48, 120] (by decide) hs ha hr3 hb3 k1).mono ?_; rintro e w4 ⟨rfl, hr4, hb4⟩)
  have tok : True := trivial
  go_wp2_with (go_at_call 79; have _t := tok; clear tok; refine (ru_ok true false M hs l1 hr4 hb4 HM.out k2).mono ?_; rintro e w5 ⟨rfl, hr5, hb5⟩)
  have tok : True := trivial
  go_wp2_with (go_at_call 34; have _t := tok; clear tok; refine (wt_ok [112] (by decide) hs l2 hr5 hb5 k3).mono ?_; rintro e w6 ⟨rfl, hr6, hb6⟩)
  have tok : True := trivial
  go_wp2_with (go_at_call 42; have _t := tok; clear tok; refine (is_c 45 false hr6 hb6 x4).mono ?_; rintro e w7 ⟨rfl, hr7, hb7⟩)
  have tok : True := trivial
  go_wp2_with (go_at_call 79; have _t := tok; clear tok; refine (ru_no false false hs l3 hr7 hb7 k5).mono ?_; rintro e w8 ⟨rfl, hr8, hb8⟩; obtain ⟨y0, y1, y2, y3, yf⟩ := hr8.cells; clear yf)
  exact bodyPost_ret (results_tmp2 rfl _ _ _) rfl ⟨hb8, _, _, rfl, (by decide), .inr ⟨b5, _, HS.out, hr8⟩⟩
set_option linter.unusedSimpArgs false in
set_option maxRecDepth 100000 in
set_option maxHeartbeats 4000000 in
theorem rf_p4b (Q a : Nat) (s : ByteArray) (hs : s.size ≤ 65536) (W : World) (h : Rr W Q s a 0 0) (ha : a ≤ s.size) (x1 : decide (s.data.toList[a]? = some 45) = false) (x2 : decide (s.data.toList[a]? = some 110) = false) (x3 : decide (s.data.toList[a]? = some 105) = false) (b1 : Nat) (k1 : tk s.data.toList [48, 120] a = (true, b1)) (l1 : b1 ≤ s.size) (b2 : Nat) (M : List UInt8) (hM : Is s.data.toList b1 M b2) (k2 : rdg true false s.data.toList b1 = (true, b2)) (l2 : b2 ≤ s.size) (b3 : Nat) (k3 : tk s.data.toList [112] b2 = (true, b3)) (_l3 : b3 ≤ s.size) (x4 : decide (s.data.toList[b3]? = some 45) = true) (b4 : Nat) (hb4 : b4 = b3 + 1) (l4 : b4 ≤ s.size) (b5 : Nat) (k5 : rdg false true s.data.toList b4 = (false, b5)) (hsf : sf s.data.toList a = (false, b5)) : Calls Tryz.prog 63 #[.pointer (some ⟨Q, 0, none⟩)] W (FlP Q a s W) := by
  have hb0 := But.refl [Q] W
  have hr0 := h
  clear h
  have HM := Lib.hid hM
  clear hM
  have e4 : IntKind.i64.wrap ((b3 : Int) + 1) = (b4 : Int) := by rw [IntKind.wrap_i64]; omega
  clear hb4
  have HS := Lib.hid hsf
  clear hsf
  go_enter Tryz.func63, Tryz.ntmps63
  have tok : True := trivial
  go_wp2_with (go_at_call 42; have _t := tok; clear tok; refine (is_c 45 false hr0 hb0 x1).mono ?_; rintro e w1 ⟨rfl, hr1, hb1⟩)
  have tok : True := trivial
  go_wp2_with (go_at_call 42; have _t := tok; clear tok; refine (is_c 110 false hr1 hb1 x2).mono ?_; rintro e w2 ⟨rfl, hr2, hb2⟩)
  have tok : True := trivial
  go_wp2_with (go_at_call 42; have _t := tok; clear tok; refine (is_c 105 false hr2 hb2 x3).mono ?_; rintro e w3 ⟨rfl, hr3, hb3⟩)
  have tok : True := trivial
  go_wp2_with (go_at_call 34; have _t := tok; clear tok; refine (wt_ok [48, 120] (by decide) hs ha hr3 hb3 k1).mono ?_; rintro e w4 ⟨rfl, hr4, hb4⟩)
  have tok : True := trivial
  go_wp2_with (go_at_call 79; have _t := tok; clear tok; refine (ru_ok true false M hs l1 hr4 hb4 HM.out k2).mono ?_; rintro e w5 ⟨rfl, hr5, hb5⟩)
  have tok : True := trivial
  go_wp2_with (go_at_call 34; have _t := tok; clear tok; refine (wt_ok [112] (by decide) hs l2 hr5 hb5 k3).mono ?_; rintro e w6 ⟨rfl, hr6, hb6⟩)
  have tok : True := trivial
  go_wp2_with (go_at_call 42; have _t := tok; clear tok; refine (is_c 45 true hr6 hb6 x4).mono ?_; rintro e w7 ⟨rfl, hr7, hb7⟩; obtain ⟨z0, z1, z2, z3, zf⟩ := hr7.cells; have zf1 := zf 1; clear zf)
  have hr8 := hr7.step b4
  have hb8 := hb7.setCell ⟨Q, 1, none⟩ (.int .i64 (b4 : Int)) (.inl (by simp))
  have tok : True := trivial
  go_wp2_with (go_at_call 79; have _t := tok; clear tok; refine (ru_no false true hs l4 hr8 hb8 k5).mono ?_; rintro e w9 ⟨rfl, hr9, hb9⟩; obtain ⟨y0, y1, y2, y3, yf⟩ := hr9.cells; clear yf)
  exact bodyPost_ret (results_tmp2 rfl _ _ _) rfl ⟨hb9, _, _, rfl, (by decide), .inr ⟨b5, _, HS.out, hr9⟩⟩
set_option linter.unusedSimpArgs false in
set_option maxRecDepth 100000 in
set_option maxHeartbeats 4000000 in
theorem rf_p5a (Q a : Nat) (s : ByteArray) (hs : s.size ≤ 65536) (W : World) (h : Rr W Q s a 0 0) (ha : a ≤ s.size) (x1 : decide (s.data.toList[a]? = some 45) = false) (x2 : decide (s.data.toList[a]? = some 110) = false) (x3 : decide (s.data.toList[a]? = some 105) = false) (b1 : Nat) (k1 : tk s.data.toList [48, 120] a = (true, b1)) (l1 : b1 ≤ s.size) (b2 : Nat) (M : List UInt8) (hM : Is s.data.toList b1 M b2) (k2 : rdg true false s.data.toList b1 = (true, b2)) (l2 : b2 ≤ s.size) (b3 : Nat) (k3 : tk s.data.toList [112] b2 = (true, b3)) (l3 : b3 ≤ s.size) (x4 : decide (s.data.toList[b3]? = some 45) = false) (b5 : Nat) (E : List UInt8) (hE : Is s.data.toList b3 E b5) (k5 : rdg false false s.data.toList b3 = (true, b5)) (dM : ∀ c ∈ M, isH c = true) (dE : ∀ c ∈ E, isD c = true) (hsf : sf s.data.toList a = (true, b5)) (hI : Is s.data.toList a (tok false M (pwT false E)) b5) : Calls Tryz.prog 63 #[.pointer (some ⟨Q, 0, none⟩)] W (FlP Q a s W) := by
  have hb0 := But.refl [Q] W
  have hr0 := h
  clear h
  have HM := Lib.hid hM
  clear hM
  have HS := Lib.hid hsf
  have HI := Lib.hid hI
  have HE := Lib.hid hE
  have DM := Lib.hid dM
  have DE := Lib.hid dE
  clear hsf hI hE dM dE
  go_enter Tryz.func63, Tryz.ntmps63
  have tok : True := trivial
  go_wp2_with (go_at_call 42; have _t := tok; clear tok; refine (is_c 45 false hr0 hb0 x1).mono ?_; rintro e w1 ⟨rfl, hr1, hb1⟩)
  have tok : True := trivial
  go_wp2_with (go_at_call 42; have _t := tok; clear tok; refine (is_c 110 false hr1 hb1 x2).mono ?_; rintro e w2 ⟨rfl, hr2, hb2⟩)
  have tok : True := trivial
  go_wp2_with (go_at_call 42; have _t := tok; clear tok; refine (is_c 105 false hr2 hb2 x3).mono ?_; rintro e w3 ⟨rfl, hr3, hb3⟩)
  have tok : True := trivial
  go_wp2_with (go_at_call 34; have _t := tok; clear tok; refine (wt_ok [48, 120] (by decide) hs ha hr3 hb3 k1).mono ?_; rintro e w4 ⟨rfl, hr4, hb4⟩)
  have tok : True := trivial
  go_wp2_with (go_at_call 79; have _t := tok; clear tok; refine (ru_ok true false M hs l1 hr4 hb4 HM.out k2).mono ?_; rintro e w5 ⟨rfl, hr5, hb5⟩)
  have tok : True := trivial
  go_wp2_with (go_at_call 34; have _t := tok; clear tok; refine (wt_ok [112] (by decide) hs l2 hr5 hb5 k3).mono ?_; rintro e w6 ⟨rfl, hr6, hb6⟩)
  have tok : True := trivial
  go_wp2_with (go_at_call 42; have _t := tok; clear tok; refine (is_c 45 false hr6 hb6 x4).mono ?_; rintro e w7 ⟨rfl, hr7, hb7⟩)
  have tok : True := trivial
  go_wp2_with (go_at_call 79; have _t := tok; clear tok; refine (ru_ok false false E hs l3 hr7 hb7 HE.out k5).mono ?_; rintro e w8 ⟨rfl, hr8, hb8⟩; obtain ⟨y0, y1, y2, y3, yf⟩ := hr8.cells; clear yf)
  have tok : True := trivial
  go_wp2_with (go_at_call 80; have _t := tok; clear tok; refine (value_any false false M E DM.out DE.out _).mono ?_; rintro e wv ⟨⟨x, v, rfl, hx, hv1, hv2⟩, hbv⟩; have HV1 := Lib.hid hv1; have HV2 := Lib.hid hv2; clear hv1 hv2)
  exact bodyPost_ret (results_tmp2 rfl _ _ _) rfl ⟨hb8.trans (hbv.weak (by simp)), x, v, rfl, hx, .inl ⟨b5, HS.out, hr8.keep hbv (by simp), fun h => (HV1.out h).trans HI.out.piece.symm, fun ⟨y, hy, hR⟩ => (HV2.out y hy (hR.trans HI.out.piece)).1⟩⟩
set_option linter.unusedSimpArgs false in
set_option maxRecDepth 100000 in
set_option maxHeartbeats 4000000 in
theorem rf_p5b (Q a : Nat) (s : ByteArray) (hs : s.size ≤ 65536) (W : World) (h : Rr W Q s a 0 0) (ha : a ≤ s.size) (x1 : decide (s.data.toList[a]? = some 45) = false) (x2 : decide (s.data.toList[a]? = some 110) = false) (x3 : decide (s.data.toList[a]? = some 105) = false) (b1 : Nat) (k1 : tk s.data.toList [48, 120] a = (true, b1)) (l1 : b1 ≤ s.size) (b2 : Nat) (M : List UInt8) (hM : Is s.data.toList b1 M b2) (k2 : rdg true false s.data.toList b1 = (true, b2)) (l2 : b2 ≤ s.size) (b3 : Nat) (k3 : tk s.data.toList [112] b2 = (true, b3)) (_l3 : b3 ≤ s.size) (x4 : decide (s.data.toList[b3]? = some 45) = true) (b4 : Nat) (hb4 : b4 = b3 + 1) (l4 : b4 ≤ s.size) (b5 : Nat) (E : List UInt8) (hE : Is s.data.toList b4 E b5) (k5 : rdg false true s.data.toList b4 = (true, b5)) (dM : ∀ c ∈ M, isH c = true) (dE : ∀ c ∈ E, isD c = true) (hsf : sf s.data.toList a = (true, b5)) (hI : Is s.data.toList a (tok false M (pwT true E)) b5) : Calls Tryz.prog 63 #[.pointer (some ⟨Q, 0, none⟩)] W (FlP Q a s W) := by
  have hb0 := But.refl [Q] W
  have hr0 := h
  clear h
  have HM := Lib.hid hM
  clear hM
  have e4 : IntKind.i64.wrap ((b3 : Int) + 1) = (b4 : Int) := by rw [IntKind.wrap_i64]; omega
  clear hb4
  have HS := Lib.hid hsf
  have HI := Lib.hid hI
  have HE := Lib.hid hE
  have DM := Lib.hid dM
  have DE := Lib.hid dE
  clear hsf hI hE dM dE
  go_enter Tryz.func63, Tryz.ntmps63
  have tok : True := trivial
  go_wp2_with (go_at_call 42; have _t := tok; clear tok; refine (is_c 45 false hr0 hb0 x1).mono ?_; rintro e w1 ⟨rfl, hr1, hb1⟩)
  have tok : True := trivial
  go_wp2_with (go_at_call 42; have _t := tok; clear tok; refine (is_c 110 false hr1 hb1 x2).mono ?_; rintro e w2 ⟨rfl, hr2, hb2⟩)
  have tok : True := trivial
  go_wp2_with (go_at_call 42; have _t := tok; clear tok; refine (is_c 105 false hr2 hb2 x3).mono ?_; rintro e w3 ⟨rfl, hr3, hb3⟩)
  have tok : True := trivial
  go_wp2_with (go_at_call 34; have _t := tok; clear tok; refine (wt_ok [48, 120] (by decide) hs ha hr3 hb3 k1).mono ?_; rintro e w4 ⟨rfl, hr4, hb4⟩)
  have tok : True := trivial
  go_wp2_with (go_at_call 79; have _t := tok; clear tok; refine (ru_ok true false M hs l1 hr4 hb4 HM.out k2).mono ?_; rintro e w5 ⟨rfl, hr5, hb5⟩)
  have tok : True := trivial
  go_wp2_with (go_at_call 34; have _t := tok; clear tok; refine (wt_ok [112] (by decide) hs l2 hr5 hb5 k3).mono ?_; rintro e w6 ⟨rfl, hr6, hb6⟩)
  have tok : True := trivial
  go_wp2_with (go_at_call 42; have _t := tok; clear tok; refine (is_c 45 true hr6 hb6 x4).mono ?_; rintro e w7 ⟨rfl, hr7, hb7⟩; obtain ⟨z0, z1, z2, z3, zf⟩ := hr7.cells; have zf1 := zf 1; clear zf)
  have hr8 := hr7.step b4
  have hb8 := hb7.setCell ⟨Q, 1, none⟩ (.int .i64 (b4 : Int)) (.inl (by simp))
  have tok : True := trivial
  go_wp2_with (go_at_call 79; have _t := tok; clear tok; refine (ru_ok false true E hs l4 hr8 hb8 HE.out k5).mono ?_; rintro e w9 ⟨rfl, hr9, hb9⟩; obtain ⟨y0, y1, y2, y3, yf⟩ := hr9.cells; clear yf)
  have tok : True := trivial
  go_wp2_with (go_at_call 80; have _t := tok; clear tok; refine (value_any false true M E DM.out DE.out _).mono ?_; rintro e wv ⟨⟨x, v, rfl, hx, hv1, hv2⟩, hbv⟩; have HV1 := Lib.hid hv1; have HV2 := Lib.hid hv2; clear hv1 hv2)
  exact bodyPost_ret (results_tmp2 rfl _ _ _) rfl ⟨hb9.trans (hbv.weak (by simp)), x, v, rfl, hx, .inl ⟨b5, HS.out, hr9.keep hbv (by simp), fun h => (HV1.out h).trans HI.out.piece.symm, fun ⟨y, hy, hR⟩ => (HV2.out y hy (hR.trans HI.out.piece)).1⟩⟩

end Go.Proofs.YtnghppgpdeghfaaGreatDoor
