/- A float's text. -/
import Derived.Test.YtnghppgpdeghfaaGreatDoorTx1
namespace Go.Proofs.YtnghppgpdeghfaaGreatDoor.Tx
open Go.Proofs.YtnghppgpdeghfaaGreatDoor.Fl Go.Proofs.YtnghppgpdeghfaaGreatDoor.Pt

theorem RN_zero (p : Int) : RN 0 p = 0 := by unfold RN; rw [if_pos rfl]
theorem atoi_dd {u : Nat} (h : u < 9223372036854775808) : Lib.atoiAll (Lib.decDigits u) = .ok (u : Int) := by
  have hp : Lib.parseMag (Lib.decDigits u) = .ok u := by
    unfold Lib.parseMag
    rw [if_neg (dd_ne u), pu10_ok _ 0 (dd_isD u) (by rw [decV_dd]; omega), decV_dd]
  cases hl : Lib.decDigits u with
  | nil => exact absurd hl (dd_ne u)
  | cons c r =>
    have hc := dd_isD u c (by rw [hl]; simp)
    unfold isD at hc
    simp at hc
    rw [hl] at hp
    rw [Lib.atoiAll_plain c r (by omega) (by omega), hp]
    show (if 9223372036854775808 ≤ u then Lib.NumEnd.range else .ok (u : Int)) = _
    rw [if_neg (by omega)]
theorem atoi_itoa {e : Int} (h1 : -9223372036854775808 < e) (h2 : e < 9223372036854775808) : Lib.atoiAll (Lib.itoa e) = .ok e := by
  unfold Lib.itoa
  split
  · have hp : Lib.parseMag (Lib.decDigits e.natAbs) = .ok e.natAbs := by
      unfold Lib.parseMag
      rw [if_neg (dd_ne _), pu10_ok _ 0 (dd_isD _) (by rw [decV_dd]; omega), decV_dd]
    rw [Lib.atoiAll_minus, hp]
    show (if 9223372036854775808 < e.natAbs then Lib.NumEnd.range else .ok (-(e.natAbs : Int))) = _
    rw [if_neg (by omega)]
    congr 1
    omega
  · rw [atoi_dd (by omega)]
    congr 1
    omega

def tz (m : Nat) : Nat := if _h : m % 2 = 1 ∨ m = 0 then 0 else tz (m / 2) + 1
  termination_by m
  decreasing_by omega
theorem tz_spec (m : Nat) (h0 : m ≠ 0) : m / 2 ^ tz m * 2 ^ tz m = m ∧ m / 2 ^ tz m % 2 = 1 := by
  induction m using Nat.strongRecOn with
  | _ m ih =>
    by_cases h : m % 2 = 1 ∨ m = 0
    · rw [tz, dif_pos h]; simp; omega
    · obtain ⟨i1, i2⟩ := ih (m / 2) (by omega) (by omega)
      rw [tz, dif_neg h]
      have e : m / 2 ^ (tz (m / 2) + 1) = m / 2 / 2 ^ tz (m / 2) := by rw [Nat.pow_succ, Nat.mul_comm, Nat.div_div_eq_div_mul]
      rw [e]
      refine ⟨?_, i2⟩
      rw [Nat.pow_succ, ← Nat.mul_assoc, i1]
      omega
/-- A float's odd whole number and its power of two. -/
def cm (b : Nat) : Nat := if spm b = 0 then 0 else spm b / 2 ^ tz (spm b)
def ce (b : Nat) : Int := if spm b = 0 then 0 else spe b + tz (spm b)
/-- A float's text. -/
def fl (b : Nat) : List UInt8 :=
  if nan b then [110, 97, 110] else if b % SG = INF then (if SG ≤ b then [45, 105, 110, 102] else [105, 110, 102])
  else (if SG ≤ b then [45] else []) ++ ([48, 120] ++ (hexD (cm b) ++ 112 :: Lib.itoa (ce b)))
theorem fl_fin {b : Nat} (h : fin b) : fl b = (if SG ≤ b then [45] else []) ++ ([48, 120] ++ (hexD (cm b) ++ 112 :: Lib.itoa (ce b))) := by
  unfold fl
  have h1 : nan b = false := by unfold nan; simp; exact Nat.le_of_lt h.2
  rw [h1, if_neg (by simp), if_neg (by have := h.2; omega)]
theorem spm_mg {b : Nat} : spm b = mg (b % SG) := by
  unfold spm mg
  split
  · rfl
  · rw [show b % SG % ON = b % ON by simp only [SG, ON]; omega]; omega
theorem spe_sh {b : Nat} : spe b = (sh (b % SG) : Int) - 1074 := by
  unfold spe sh
  split
  · rw [Nat.div_eq_of_lt (by assumption)]; rfl
  · rename_i h
    have : 1 ≤ b % SG / ON := by rw [Nat.le_div_iff_mul_le (by simp only [ON]; omega)]; omega
    omega
theorem mg_lt (r : Nat) : mg r < 9007199254740992 := by
  unfold mg
  simp only [ON]
  split <;> omega
theorem parse {b : Nat} (h : fin b) : cm b < 9007199254740992 ∧ -1074 ≤ ce b ∧ ce b ≤ 1023 ∧ RN (cm b) (ce b + 1074) = b % SG ∧ V (b % SG) = cm b * 2 ^ (ce b + 1074).toNat := by
  unfold cm ce
  by_cases h0 : spm b = 0
  · rw [if_pos h0, if_pos h0]
    have hr : b % SG = 0 := by
      rw [spm_mg] at h0
      unfold mg at h0
      simp only [ON] at h0
      split at h0 <;> omega
    refine ⟨by omega, by omega, by omega, ?_, ?_⟩
    · rw [RN_zero, hr]
    · rw [hr, V_zero]; exact (Nat.zero_mul _).symm
  · rw [if_neg h0, if_neg h0]
    obtain ⟨t1, t2⟩ := tz_spec (spm b) h0
    generalize hk : tz (spm b) = k at *
    generalize hc : spm b / 2 ^ k = c at *
    have hm := mg_lt (b % SG)
    rw [← spm_mg] at hm
    have hcs : c ≤ spm b := by rw [← hc]; exact Nat.div_le_self _ _
    have hV : V (b % SG) = c * 2 ^ (k + sh (b % SG)) := by
      show mg (b % SG) * 2 ^ sh (b % SG) = _
      rw [← spm_mg, ← t1, Nat.pow_add, Nat.mul_assoc]
    have hlt := V_lt h.2
    rw [V_INF, hV] at hlt
    have hex : k + sh (b % SG) < TOP := by
      refine (Nat.pow_lt_pow_iff_right (a := 2) (by omega)).1 (Nat.lt_of_le_of_lt ?_ hlt)
      exact Nat.le_mul_of_pos_left _ (by omega)
    have hT : TOP = 2098 := rfl
    have hs := spe_sh (b := b)
    have he : spe b + (k : Int) + 1074 = ((k + sh (b % SG) : Nat) : Int) := by omega
    refine ⟨by omega, by omega, by omega, ?_, ?_⟩
    · rw [he]
      have h1 := RN_scale c (k + sh (b % SG)) ((k + sh (b % SG) : Nat) : Int)
      rw [Int.sub_self, ← hV, RN_V _ (Nat.le_of_lt h.2)] at h1
      exact h1.symm
    · rw [he, hV]; rfl

theorem split_at (c : UInt8) : ∀ (A A' B B' : List UInt8), c ∉ A → c ∉ A' → A ++ c :: B = A' ++ c :: B' → A = A' ∧ B = B'
  | [], [], B, B', _, _, h => ⟨rfl, by simpa using h⟩
  | [], a :: A', B, B', _, h2, h => by simp at h; exact absurd (by simp [h.1]) h2
  | a :: A, [], B, B', h1, _, h => by simp at h; exact absurd (by simp [h.1]) h1
  | a :: A, a' :: A', B, B', h1, h2, h => by
    simp at h h1 h2
    obtain ⟨e1, e2⟩ := split_at c A A' B B' h1.2 h2.2 h.2
    exact ⟨by rw [h.1, e1], e2⟩
theorem no_p {M : List UInt8} (h : ∀ c ∈ M, isH c = true) : (112 : UInt8) ∉ M := fun hm => by
  have := h _ hm
  simp [isH] at this
/-- A text of a number's form. -/
def tok (neg : Bool) (M T : List UInt8) : List UInt8 := (if neg then [45] else []) ++ ([48, 120] ++ (M ++ 112 :: T))
theorem tok_fl {neg : Bool} {M T : List UInt8} {y : Nat} (hM : ∀ c ∈ M, isH c = true) (h : fl y = tok neg M T) (hy : y < 18446744073709551616) : fin y ∧ neg = decide (SG ≤ y) ∧ M = hexD (cm y) ∧ T = Lib.itoa (ce y) := by
  have hf : fin y := by
    refine ⟨hy, Classical.byContradiction fun hn => ?_⟩
    unfold fl tok at h
    by_cases h1 : nan y = true
    · rw [if_pos h1] at h; cases neg <;> simp at h
    · rw [if_neg h1] at h
      have h2 : y % SG = INF := by unfold nan at h1; simp at h1; omega
      rw [if_pos h2] at h
      by_cases h3 : SG ≤ y
      · rw [if_pos h3] at h; cases neg <;> simp at h
      · rw [if_neg h3] at h; cases neg <;> simp at h
  refine ⟨hf, ?_⟩
  rw [fl_fin hf] at h
  unfold tok at h
  have key : ∀ A B A' B' : List UInt8, (∀ c ∈ A, isH c = true) → (∀ c ∈ A', isH c = true) → ([48, 120] ++ (A ++ 112 :: B) : List UInt8) = [48, 120] ++ (A' ++ 112 :: B') → A = A' ∧ B = B' := fun A B A' B' hA hA' e => split_at 112 A A' B B' (no_p hA) (no_p hA') (by simpa using e)
  by_cases h3 : SG ≤ y
  · rw [if_pos h3] at h
    cases neg
    · simp at h
    · obtain ⟨e1, e2⟩ := key _ _ _ _ (hexD_isH _) hM (by simpa using h)
      exact ⟨by simp [h3], e1.symm, e2.symm⟩
  · rw [if_neg h3] at h
    cases neg
    · obtain ⟨e1, e2⟩ := key _ _ _ _ (hexD_isH _) hM (by simpa using h)
      exact ⟨by simp [h3], e1.symm, e2.symm⟩
    · simp at h
theorem wd_self' {b : Nat} (hb : b < 18446744073709551616) : wd (decide (SG ≤ b)) (b % SG) = b := by
  unfold wd
  simp only [SG]
  by_cases h : 9223372036854775808 ≤ b
  · simp [h]; omega
  · simp [h]; omega
/-- What is right about a text of a number's form: it is the text of the number that it spells. -/
theorem right_join {neg : Bool} {M T : List UInt8} {n : Nat} {k : Int} (hM : ∀ c ∈ M, isH c = true) (hn : Tx.pu16 0 M = .ok n) (hk : Lib.atoiAll T = .ok k) (hx : ∃ y, y < 18446744073709551616 ∧ fl y = tok neg M T) : fl (wd neg (joinN n k)) = tok neg M T := by
  obtain ⟨y, hy, h⟩ := hx
  obtain ⟨hf, e1, e2, e3⟩ := tok_fl hM h hy
  obtain ⟨p1, p2, p3, p4, _⟩ := parse hf
  have e4 : n = cm y := by rw [pu16_eq _ _ _ hn, e2, hexV_hexD]
  have e5 : k = ce y := by
    rw [e3, atoi_itoa (by omega) (by omega)] at hk
    injection hk with hk
    exact hk.symm
  rw [e4, e5, joinN_RN (by omega), p4, e1, wd_self' hy, ← e1]
  exact h
theorem right_none {neg : Bool} {M T : List UInt8} (hM : ∀ c ∈ M, isH c = true) (hx : ∃ y, y < 18446744073709551616 ∧ fl y = tok neg M T) : ∃ n k, Tx.pu16 0 M = .ok n ∧ Lib.atoiAll T = .ok k ∧ -2000 ≤ k ∧ k ≤ 2000 ∧ M.length ≤ 14 ∧ n < 9007199254740992 := by
  obtain ⟨y, hy, h⟩ := hx
  obtain ⟨hf, e1, e2, e3⟩ := tok_fl hM h hy
  obtain ⟨p1, p2, p3, p4, _⟩ := parse hf
  refine ⟨cm y, ce y, ?_, ?_, by omega, by omega, ?_, p1⟩
  · rw [e2, pu16_ok _ 0 (hexD_isH _) (by rw [hexV_hexD]; omega), hexV_hexD]
  · rw [e3, atoi_itoa (by omega) (by omega)]
  · rw [e2]; exact hexD_len 13 _ (by omega)
end Go.Proofs.YtnghppgpdeghfaaGreatDoor.Tx
