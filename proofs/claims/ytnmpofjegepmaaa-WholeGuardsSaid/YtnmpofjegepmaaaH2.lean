/- Plain facts on a guarded filter: neat parts, the count's bounds. -/
import Derived.Test.YtnmpofjegepmaaaH1
import Derived.Test.YtnmpofjegepmaaaCleans
namespace Go.Proofs.Ytnmpofjegepmaaa
open Go.RowKit Go.Proofs.Ytnmpofjegepmaaa.Fl Go.Proofs.Ytnmpofjegepmaaa.Pt

theorem clF_neat (b : Nat) : cls (clF true true true b) = 0 ∨ cls (clF true true true b) = 2 := by
  have hs := cls_sgw b
  have hx : cls (9218868437227405311 + sgw b) = 2 := by unfold sgw; split <;> decide
  have h0 : cls 0 = 0 := by decide
  have hc := cls_le b
  by_cases h4 : cls b = 4
  · have : clF true true true b = 0 := by unfold clF; simp [h4]
    rw [this]; exact .inl h0
  · by_cases h3 : cls b = 3
    · have : clF true true true b = 9218868437227405311 + sgw b := by unfold clF; simp [h3]
      rw [this]; exact .inr hx
    · by_cases h1 : cls b = 1
      · have : clF true true true b = sgw b := by unfold clF; simp [h1]
        rw [this]; exact .inl hs
      · have : clF true true true b = b := by unfold clF; simp [h4, h3, h1]
        rw [this]; omega
theorem clC_neat (a : C) : Neat (clC true true true a) := ⟨clF_neat _, clF_neat _⟩
theorem Neat.cc {a : C} (h : Neat (ccn a)) : Neat a := by
  unfold Neat ccn at h
  simp only [cls_cn] at h
  exact h
theorem qYv_neat (g : C) (Sc St : Nat → C) (x : C) {n : Nat} (hn : 0 < n) : Neat (qYv true true true g Sc St x n) := by
  obtain ⟨k, rfl⟩ : ∃ k, n = k + 1 := ⟨n - 1, by omega⟩
  exact clC_neat _
theorem qSs_neat (n : Nat) (g : C) (Sc St : Nat → C) (xs : Nat → C) (h : ∀ j, Neat (St j)) (i j : Nat) : Neat (qSs true true true n g Sc St xs i j) := by
  induction i generalizing j with
  | zero => exact h j
  | succ i ih =>
    simp only [qSs, qTv]
    split
    · split <;> exact clC_neat _
    · exact ih j
theorem clC_same {f c m : Bool} {a : C} (h : clN f c m a = 0) : clC f c m a = a := by
  have key : ∀ b, clB f c m b = false → clF f c m b = b := by
    intro b hb
    unfold clB at hb
    unfold clF
    by_cases h4 : cls b = 4
    · simp only [h4, if_true] at hb ⊢
      rw [hb]; simp
    · simp only [if_neg h4] at hb ⊢
      by_cases h3 : cls b = 3
      · simp only [h3, if_true] at hb ⊢
        rw [hb]; simp
      · simp only [if_neg h3] at hb ⊢
        by_cases h1 : cls b = 1
        · simp only [h1, if_true] at hb ⊢
          rw [hb]; simp
        · simp only [if_neg h1]
  unfold clN at h
  unfold clC
  cases h1 : clB f c m a.1
  · cases h2 : clB f c m a.2
    · rw [key _ h1, key _ h2]
    · simp [h2] at h
  · simp [h1] at h
theorem qN_le (f c m : Bool) (g : C) (Sc St : Nat → C) (x : C) (k : Nat) : qN f c m g Sc St x k ≤ k * 6 := by
  induction k with
  | zero => exact Nat.le_refl _
  | succ k ih =>
    simp only [qN]
    have h1 := clN_le f c m (qR f c m g Sc St x k)
    have h2 := clN_le f c m (qT1 f c m g Sc St x k)
    have h3 := clN_le f c m (qT2 f c m g Sc St x k)
    omega
theorem qNs_le (f c m : Bool) (n : Nat) (hn : n ≤ 16) (g : C) (Sc St : Nat → C) (xs : Nat → C) (t : Nat) : qNs f c m n g Sc St xs t ≤ t * 96 := by
  induction t with
  | zero => exact Nat.le_refl _
  | succ t ih =>
    simp only [qNs]
    have := qN_le f c m g Sc (qSs f c m n g Sc St xs t) (xs t) n
    omega
end Go.Proofs.Ytnmpofjegepmaaa
