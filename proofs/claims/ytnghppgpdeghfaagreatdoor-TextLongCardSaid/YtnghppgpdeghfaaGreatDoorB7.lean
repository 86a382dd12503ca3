/- The reference's value, whole. -/
import Derived.Test.YtnghppgpdeghfaaGreatDoorB6
namespace Go.Proofs.YtnghppgpdeghfaaGreatDoor
open Go.RowKit Go.Proofs.YtnghppgpdeghfaaGreatDoor.Fl Go.Proofs.YtnghppgpdeghfaaGreatDoor.Pt Go.Proofs.YtnghppgpdeghfaaGreatDoor.Tx

set_option linter.unusedSimpArgs false in
set_option maxRecDepth 100000 in
set_option maxHeartbeats 4000000 in
theorem value_long1 (neg bel : Bool) (M E : List UInt8) (h : 14 < M.length) (W : World) : Calls Tryz.prog 80 #[.bool neg, .string (str M), .bool bel, .string (str E)] W fun r w' => r = .returned (.tuple #[.float .f64 0, .bool false]) ∧ But [] W w' := by
  have s1 : (str M).size = M.length := rfl
  have s2 : (str E).size = E.length := rfl
  have q1 : decide ((14 : Int) < (M.length : Int)) = true := decide_eq_true (by omega)
  clear h
  go_enter Tryz.func80, Tryz.ntmps80
  go_wp2_with fail
  exact bodyPost_ret (results_tmp2 rfl _ _ _) rfl ⟨rfl, But.refl _ _⟩
set_option linter.unusedSimpArgs false in
set_option maxRecDepth 100000 in
set_option maxHeartbeats 4000000 in
theorem value_long2 (neg bel : Bool) (M E : List UInt8) (h1 : M.length ≤ 14) (h : 4 < E.length) (W : World) : Calls Tryz.prog 80 #[.bool neg, .string (str M), .bool bel, .string (str E)] W fun r w' => r = .returned (.tuple #[.float .f64 0, .bool false]) ∧ But [] W w' := by
  have s1 : (str M).size = M.length := rfl
  have s2 : (str E).size = E.length := rfl
  have q1 : decide ((14 : Int) < (M.length : Int)) = false := decide_eq_false (by omega)
  have q2 : decide ((4 : Int) < (E.length : Int)) = true := decide_eq_true (by omega)
  clear h1 h
  go_enter Tryz.func80, Tryz.ntmps80
  go_wp2_with fail
  exact bodyPost_ret (results_tmp2 rfl _ _ _) rfl ⟨rfl, But.refl _ _⟩

/-- The text behind the power's letter. -/
def pwT (bel : Bool) (E : List UInt8) : List UInt8 := (if bel then [45] else []) ++ E
theorem itoa_pw {z : Int} {bel : Bool} {E : List UInt8} (hE : ∀ c ∈ E, isD c = true) (h : pwT bel E = Lib.itoa z) : E = Lib.decDigits z.natAbs ∧ (if bel then -((decV 0 E : Nat) : Int) else ((decV 0 E : Nat) : Int)) = z := by
  have n45 : isD 45 = false := by decide
  unfold pwT Lib.itoa at h
  by_cases hz : z < 0
  · rw [if_pos hz] at h
    cases bel
    · have h' : E = 45 :: Lib.decDigits z.natAbs := by simpa using h
      have := hE 45 (by rw [h']; simp)
      rw [n45] at this; cases this
    · have h' : E = Lib.decDigits z.natAbs := by simpa using h
      refine ⟨h', ?_⟩
      rw [h', decV_dd, if_pos rfl]; omega
  · rw [if_neg hz] at h
    cases bel
    · have h' : E = Lib.decDigits z.toNat := by simpa using h
      have e : z.toNat = z.natAbs := by omega
      rw [e] at h'
      refine ⟨h', ?_⟩
      rw [h', decV_dd, if_neg (by decide)]; omega
    · have h' : 45 :: E = Lib.decDigits z.toNat := by simpa using h
      have := dd_isD z.toNat 45 (by rw [← h']; simp)
      rw [n45] at this; cases this
/-- What value answers. -/
def VaP (neg bel : Bool) (M E : List UInt8) (r : Ending) : Prop := ∃ x b, r = .returned (.tuple #[.float .f64 x, .bool b]) ∧ x < 18446744073709551616 ∧ (b = true → fl x = tok neg M (pwT bel E)) ∧ (∀ y, y < 18446744073709551616 → fl y = tok neg M (pwT bel E) → b = true ∧ x = y)
theorem value_core (neg bel : Bool) (M E : List UInt8) (hM : ∀ c ∈ M, isH c = true) (hE : ∀ c ∈ E, isD c = true) (hl1 : M.length ≤ 14) (hl2 : E.length ≤ 4) (P : Nat → Prop) (hL : ∀ W, Calls Tryz.prog 100 #[.float .f64 (RN (hexV 0 M) 1074), .int .i64 (if bel then -((decV 0 E : Nat) : Int) else ((decV 0 E : Nat) : Int))] W fun r w' => (∃ z, r = .returned (.float .f64 z) ∧ z < 9223372036854775808 ∧ P z) ∧ But [] W w') (W : World) :
    Calls Tryz.prog 80 #[.bool neg, .string (str M), .bool bel, .string (str E)] W fun r w' => (∃ z, r = .returned (.tuple #[.float .f64 (wd neg z), .bool (decide (fl (wd neg z) = tok neg M (pwT bel E)))]) ∧ z < 9223372036854775808 ∧ P z) ∧ But [] W w' := by
  have wp : ∀ z, wd false z = z := fun z => by unfold wd; rw [if_neg (by decide), Nat.zero_add]
  have wn : ∀ z, wd true z = z + 9223372036854775808 := fun z => by unfold wd; rw [if_pos rfl]; unfold SG; omega
  cases neg <;> cases bel
  · have := value_pa M E hM hE hl1 hl2 P hL W
    simpa [wp, tok, pwT] using this
  · have := value_pb M E hM hE hl1 hl2 P hL W
    simpa [wp, tok, pwT] using this
  · have := value_na M E hM hE hl1 hl2 P hL W
    simpa [wn, tok, pwT] using this
  · have := value_nb M E hM hE hl1 hl2 P hL W
    simpa [wn, tok, pwT] using this
theorem value_any (neg bel : Bool) (M E : List UInt8) (hM : ∀ c ∈ M, isH c = true) (hE : ∀ c ∈ E, isD c = true) (W : World) :
    Calls Tryz.prog 80 #[.bool neg, .string (str M), .bool bel, .string (str E)] W fun r w' => VaP neg bel M E r ∧ But [] W w' := by
  by_cases hx : ∃ y, y < 18446744073709551616 ∧ fl y = tok neg M (pwT bel E)
  · obtain ⟨y, hy, hfl⟩ := hx
    obtain ⟨hf, e1, e2, e3⟩ := tok_fl hM hfl hy
    obtain ⟨p1, p2, p3, p4, p5⟩ := parse hf
    obtain ⟨e4, e5⟩ := itoa_pw hE e3
    have l1 : M.length ≤ 14 := by rw [e2]; exact hexD_len 13 _ (by omega)
    have l2 : E.length ≤ 4 := by rw [e4]; exact dd_len 3 _ (by omega)
    have v1 : hexV 0 M = cm y := by rw [e2, hexV_hexD]
    have hlt : y % SG < SG := Nat.mod_lt _ (by decide)
    refine (value_core neg bel M E hM hE l1 l2 (fun z => z = y % SG) (fun W => ?_) W).mono ?_
    · rw [e5, v1]
      refine (rldexp_right (cm y) p1 (ce y) p2 p3 (by rw [← p5]; have := V_lt hf.2; rw [V_INF] at this; exact this) W).mono ?_
      rintro r w' ⟨rfl, hb⟩
      exact ⟨⟨_, rfl, by rw [p4]; exact hlt, p4⟩, hb⟩
    · rintro r w' ⟨⟨z, rfl, hz, hzz⟩, hb⟩
      have hw : wd neg z = y := by rw [hzz, e1, wd_self' hy]
      refine ⟨⟨_, _, rfl, by rw [hw]; exact hy, fun h => of_decide_eq_true h, fun y' hy' h' => ?_⟩, hb⟩
      rw [hw]
      obtain ⟨f', g1, g2, g3⟩ := tok_fl hM h' hy'
      obtain ⟨_, _, _, r4, _⟩ := parse f'
      obtain ⟨_, g5⟩ := itoa_pw hE g3
      have m1 : cm y = cm y' := by rw [← v1, g2, hexV_hexD]
      have m2 : ce y = ce y' := e5.symm.trans g5
      refine ⟨decide_eq_true hfl, ?_⟩
      rw [← wd_self' hy, ← wd_self' hy', ← e1, ← g1, ← p4, ← r4, m1, m2]
  · have hno : ∀ x, x < 18446744073709551616 → ¬ fl x = tok neg M (pwT bel E) := fun x h1 h2 => hx ⟨x, h1, h2⟩
    by_cases l1 : M.length ≤ 14
    · by_cases l2 : E.length ≤ 4
      · have hd := decV_lt E hE l2
        refine (value_core neg bel M E hM hE l1 l2 (fun _ => True) (fun W => ?_) W).mono ?_
        · refine (rldexp_any (hexV 0 M) (hexV_lt M hM l1) _ (by split <;> omega) (by split <;> omega) W).mono ?_
          rintro r w' ⟨⟨z, rfl, hz⟩, hb⟩
          exact ⟨⟨z, rfl, hz, trivial⟩, hb⟩
        · rintro r w' ⟨⟨z, rfl, hz, _⟩, hb⟩
          have hw : wd neg z < 18446744073709551616 := wd_lt neg hz
          exact ⟨⟨_, _, rfl, hw, fun h => of_decide_eq_true h, fun y hy h => absurd h (hno y hy)⟩, hb⟩
      · refine (value_long2 neg bel M E l1 (by omega) W).mono ?_
        rintro r w' ⟨rfl, hb⟩
        exact ⟨⟨_, _, rfl, by decide, (fun h => absurd h (by decide)), fun y hy h => absurd h (hno y hy)⟩, hb⟩
    · refine (value_long1 neg bel M E (by omega) W).mono ?_
      rintro r w' ⟨rfl, hb⟩
      exact ⟨⟨_, _, rfl, by decide, (fun h => absurd h (by decide)), fun y hy h => absurd h (hno y hy)⟩, hb⟩
end Go.Proofs.YtnghppgpdeghfaaGreatDoor
