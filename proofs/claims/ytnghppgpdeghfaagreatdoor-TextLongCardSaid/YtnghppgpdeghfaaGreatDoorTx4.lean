/- A number's text, gone through. -/
import Derived.Test.YtnghppgpdeghfaaGreatDoorTx3
namespace Go.Proofs.YtnghppgpdeghfaaGreatDoor.Tx
open Go.Proofs.YtnghppgpdeghfaaGreatDoor.Fl Go.Proofs.YtnghppgpdeghfaaGreatDoor.Pt

/-- Is it the text of a float? -/
def Rt (X : List UInt8) : Prop := ∃ y, y < 18446744073709551616 ∧ fl y = X
theorem fl_inj {x y : Nat} (hx : x < 18446744073709551616) (hy : y < 18446744073709551616) (h : fl x = fl y) : eqv x y = true := by
  by_cases fx : fin x
  · have e : fl y = tok (decide (SG ≤ x)) (hexD (cm x)) (Lib.itoa (ce x)) := by
      rw [← h, fl_fin fx]
      unfold tok
      by_cases c : SG ≤ x <;> simp [c]
    obtain ⟨fy, e1, e2, e3⟩ := tok_fl (hexD_isH _) e hy
    obtain ⟨p1, p2, p3, p4, _⟩ := parse fx
    obtain ⟨r1, r2, r3, r4, _⟩ := parse fy
    have m1 : cm x = cm y := by rw [← hexV_hexD (cm x), e2, hexV_hexD]
    have m2 : ce x = ce y := by
      have := congrArg Lib.atoiAll e3
      rw [atoi_itoa (by omega) (by omega), atoi_itoa (by omega) (by omega)] at this
      injection this
    have m3 : x % SG = y % SG := by rw [← p4, ← r4, m1, m2]
    have m4 : x = y := by rw [← wd_self' hx, ← wd_self' hy, m3, e1]
    rw [m4]; exact eqv_refl y
  · by_cases fy : fin y
    · have e : fl x = tok (decide (SG ≤ y)) (hexD (cm y)) (Lib.itoa (ce y)) := by
        rw [h, fl_fin fy]
        unfold tok
        by_cases c : SG ≤ y <;> simp [c]
      exact absurd (tok_fl (hexD_isH _) e hx).1 fx
    · have gx : INF ≤ x % SG := Nat.le_of_not_lt fun c => fx ⟨hx, c⟩
      have gy : INF ≤ y % SG := Nat.le_of_not_lt fun c => fy ⟨hy, c⟩
      unfold fl at h
      have nx : nan x = decide (INF < x % SG) := rfl
      have ny : nan y = decide (INF < y % SG) := rfl
      by_cases h1 : nan x = true
      · by_cases h2 : nan y = true
        · exact eqv_nan h1 h2
        · have h2' : y % SG = INF := by rw [ny] at h2; simp at h2; omega
          rw [if_pos h1, if_neg h2, if_pos h2'] at h
          split at h <;> simp at h
      · have h1' : x % SG = INF := by rw [nx] at h1; simp at h1; omega
        by_cases h2 : nan y = true
        · rw [if_neg h1, if_pos h1', if_pos h2] at h
          split at h <;> simp at h
        · have h2' : y % SG = INF := by rw [ny] at h2; simp at h2; omega
          rw [if_neg h1, if_pos h1', if_neg h2, if_pos h2'] at h
          have : x = y := by
            by_cases c1 : SG ≤ x
            · by_cases c2 : SG ≤ y
              · simp only [SG] at *; omega
              · rw [if_pos c1, if_neg c2] at h; simp at h
            · by_cases c2 : SG ≤ y
              · rw [if_neg c1, if_pos c2] at h; simp at h
              · simp only [SG] at *; omega
          rw [this]; exact eqv_refl y
open Classical in
/-- A float, with the byte e behind it. -/
noncomputable def fo (e : UInt8) (L : List UInt8) (a : Nat) : Bool × Nat :=
  bd (sf L a) fun b => bd (tk L [e] b) fun c => if Rt ((L.drop a).take (b - a)) then (true, c) else (false, a)
noncomputable def nu (L : List UInt8) (a : Nat) : Bool × Nat := bd (tk L [40] a) fun a => bd (fo 44 L a) fun a => fo 41 L a
/-- A number's text. -/
def num (x y : Nat) : List UInt8 := 40 :: (fl x ++ 44 :: (fl y ++ [41]))
/-- A whole text that is a number's. -/
noncomputable def rdS (L : List UInt8) : Bool × Nat := bd (nu L 0) fun b => if b < L.length then (false, b) else (true, b)
theorem fo_true {e : UInt8} {L : List UInt8} {a c : Nat} (h : fo e L a = (true, c)) : ∃ b, sf L a = (true, b) ∧ tk L [e] b = (true, c) ∧ Rt ((L.drop a).take (b - a)) := by
  unfold fo at h
  obtain ⟨b, h1, h⟩ := bd_true h
  obtain ⟨c', h2, h⟩ := bd_true h
  split at h
  · rename_i hr
    injection h with _ h
    subst h
    exact ⟨b, h1, h2, hr⟩
  · injection h with h; cases h
theorem sf_piece {L : List UInt8} {a b : Nat} (h : sf L a = (true, b)) : Is L a ((L.drop a).take (b - a)) b := by
  rcases sf_is h with h | h | h | ⟨neg, M, bel, E, h, _⟩ <;> (rw [h.piece]; exact h)
theorem whole_num {L : List UInt8} {x y c : Nat} (h : Is L 0 (num x y) c) (hc : ¬ c < L.length) : L = num x y := h.whole (by omega)
end Go.Proofs.YtnghppgpdeghfaaGreatDoor.Tx
