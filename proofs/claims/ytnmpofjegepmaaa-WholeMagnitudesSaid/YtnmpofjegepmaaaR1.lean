/- Rounding to the nearest word: between which two words, how near, and that it keeps the order. -/
import Derived.Test.YtnmpofjegepmaaaFloat
namespace Go.Proofs.Ytnmpofjegepmaaa
open Go.Proofs.Ytnmpofjegepmaaa.Fl
open Ieee

theorem V_flat {q : Nat} (h : q < 2 * ON) : V q = q := by
  have hON : ON = 4503599627370496 := by decide
  unfold V mg sh
  by_cases h1 : q < ON
  · rw [if_pos h1, Nat.div_eq_of_lt h1]; simp
  · have e : q / ON = 1 := by simp only [hON] at h h1 ⊢; omega
    rw [if_neg h1, e]
    simp only [hON] at h h1 ⊢; omega
theorem sh_flat {q : Nat} (h : q < 2 * ON) : sh q = 0 := by
  have hON : ON = 4503599627370496 := by decide
  unfold sh; simp only [hON] at h ⊢; omega
theorem sh_mk {s M : Nat} (h1 : ON ≤ M) (h2 : M < 2 * ON) : sh (s * ON + M) = s := by
  have hON : ON = 4503599627370496 := by decide
  unfold sh; simp only [hON] at h1 h2 ⊢; omega

/-- What 'RN' comes to: 'q' whole units of 2^b, and one more where the rest is more than half. -/
theorem RN_raw (m k : Nat) (hm : m ≠ 0) (hlt : RN m (-(k : Int)) < INF) : ∃ b q, (V (b * ON + q) = q * 2 ^ b ∧ sh (b * ON + q) = b) ∧ q = m / 2 ^ (b + k) ∧
    RN m (-(k : Int)) = b * ON + q + (if 2 ^ (b + k) < 2 * (m % 2 ^ (b + k)) ∨ (2 ^ (b + k) = 2 * (m % 2 ^ (b + k)) ∧ q % 2 = 1) then 1 else 0) := by
  unfold RN at hlt ⊢
  rw [if_neg hm] at hlt ⊢
  generalize hb : bnd m (-(k : Int)) = b at *
  have e1 : (-(k : Int) - (b : Int)).toNat = 0 := by omega
  have e2 : ((b : Int) - -(k : Int)).toNat = b + k := by omega
  rw [e1, e2, Nat.pow_zero, Nat.mul_one, cut_eq] at hlt ⊢
  refine ⟨b, m / 2 ^ (b + k), ?_, rfl, ?_⟩
  · have h1 := Nat.log2_self_le hm
    have h2 : m < 2 ^ (m.log2 + 1) := Nat.lt_log2_self
    have h53 : (2 : Nat) * ON = 2 ^ 53 := by decide
    have h52 : ON = 2 ^ 52 := by decide
    unfold bnd at hb
    by_cases h0 : b = 0
    · subst h0
      have hq : m / 2 ^ (0 + k) < 2 * ON := by
        rw [h53, Nat.zero_add]
        apply Nat.div_lt_of_lt_mul
        rw [← Nat.pow_add]
        exact Nat.lt_of_lt_of_le h2 (Nat.pow_le_pow_right (by decide) (by omega))
      rw [Nat.zero_mul, Nat.zero_add, Nat.pow_zero, Nat.mul_one]
      exact ⟨V_flat hq, sh_flat hq⟩
    · have hl : m.log2 = b + k + 52 := by omega
      have hq1 : ON ≤ m / 2 ^ (b + k) := by
        rw [h52, Nat.le_div_iff_mul_le (Nat.two_pow_pos _), ← Nat.pow_add]
        rw [hl] at h1
        exact Nat.le_trans (Nat.pow_le_pow_right (by decide) (by omega)) h1
      have hq2 : m / 2 ^ (b + k) < 2 * ON := by
        rw [h53]
        apply Nat.div_lt_of_lt_mul
        rw [← Nat.pow_add]
        rw [hl] at h2
        exact Nat.lt_of_lt_of_le h2 (Nat.pow_le_pow_right (by decide) (by omega))
      exact ⟨V_mk hq1 hq2, sh_mk hq1 hq2⟩
  · omega

/-- Between which two words 'm / 2^k' lies, and that the nearer one is taken. -/
theorem RN_near (m k : Nat) (hm : m ≠ 0) (hlt : RN m (-(k : Int)) < INF) : ∃ f, V f * 2 ^ k ≤ m ∧ m < V (f + 1) * 2 ^ k ∧
    ((RN m (-(k : Int)) = f ∧ 2 * m ≤ 2 * (V f * 2 ^ k) + 2 ^ sh f * 2 ^ k) ∨ (RN m (-(k : Int)) = f + 1 ∧ 2 * (V (f + 1) * 2 ^ k) ≤ 2 * m + 2 ^ sh f * 2 ^ k ∧ m ≠ V f * 2 ^ k)) := by
  obtain ⟨b, q, ⟨hV, hs⟩, hq, hr⟩ := RN_raw m k hm hlt
  have hdm := Nat.div_add_mod m (2 ^ (b + k))
  have hml := Nat.mod_lt m (Nat.two_pow_pos (b + k))
  have hsucc := V_succ (b * ON + q)
  rw [hs] at hsucc
  rw [← hq] at hdm
  have e0 : V (b * ON + q) * 2 ^ k = 2 ^ (b + k) * q := by rw [hV, Nat.pow_add, Nat.mul_assoc, Nat.mul_comm]
  have e1 : V (b * ON + q + 1) * 2 ^ k = 2 ^ (b + k) * q + 2 ^ (b + k) := by rw [← hsucc, Nat.add_mul, e0, ← Nat.pow_add]
  have e2 : 2 ^ sh (b * ON + q) * 2 ^ k = 2 ^ (b + k) := by rw [hs, ← Nat.pow_add]
  refine ⟨b * ON + q, by omega, by omega, ?_⟩
  rw [e0, e1, e2]
  clear e0 e1 e2 hsucc hV hs hq hlt
  generalize 2 ^ (b + k) * q = X at *
  generalize m % 2 ^ (b + k) = Y at *
  generalize 2 ^ (b + k) = Z at *
  by_cases h : Z < 2 * Y ∨ (Z = 2 * Y ∧ q % 2 = 1)
  · rw [if_pos h] at hr
    have g1 : 2 * (X + Z) ≤ 2 * m + Z := by clear hr; omega
    have g2 : m ≠ X := by clear hr; omega
    exact .inr ⟨hr, g1, g2⟩
  · rw [if_neg h, Nat.add_zero] at hr
    have g1 : 2 * m ≤ 2 * X + Z := by clear hr; omega
    exact .inl ⟨hr, g1⟩

theorem V_mono {a b : Nat} (h : a ≤ b) : V a ≤ V b := by
  rcases Nat.lt_or_eq_of_le h with h | h
  · exact Nat.le_of_lt (V_lt h)
  · rw [h]; exact Nat.le_refl _
/-- Order is kept. -/
theorem RN_ge {m k r : Nat} (h : V r * 2 ^ k ≤ m) (hlt : RN m (-(k : Int)) < INF) : r ≤ RN m (-(k : Int)) := by
  by_cases hm : m = 0
  · subst hm
    have pk := Nat.two_pow_pos k
    have : V r = 0 := by
      rcases Nat.eq_zero_or_pos (V r) with h1 | h1
      · exact h1
      · have := Nat.mul_pos h1 pk; omega
    have : r = 0 := V_inj (this.trans V_zero.symm)
    omega
  · obtain ⟨f, h1, h2, h3⟩ := RN_near m k hm hlt
    have : V r < V (f + 1) := by
      have h4 : V r * 2 ^ k < V (f + 1) * 2 ^ k := Nat.lt_of_le_of_lt h h2
      exact Nat.lt_of_mul_lt_mul_right h4
    have := V_lt_iff.1 this
    rcases h3 with ⟨h3, _⟩ | ⟨h3, _⟩ <;> omega
theorem RN_low {m k r : Nat} (h : m ≤ V r * 2 ^ k) (hlt : RN m (-(k : Int)) < INF) : RN m (-(k : Int)) ≤ r := by
  by_cases hm : m = 0
  · subst hm; simp [RN]
  · obtain ⟨f, h1, h2, h3⟩ := RN_near m k hm hlt
    have pk := Nat.two_pow_pos k
    have h4 : V f ≤ V r := Nat.le_of_mul_le_mul_right (Nat.le_trans h1 h) pk
    have h5 : f ≤ r := by
      rcases Nat.lt_or_ge r f with h | h
      · have := V_lt h; omega
      · exact h
    rcases h3 with ⟨h3, _⟩ | ⟨h3, _, h6⟩
    · omega
    · rcases Nat.lt_or_eq_of_le h5 with h | h
      · omega
      · subst h; omega
/-- How near. -/
theorem RN_err {m k : Nat} (h : 2 ^ 52 * 2 ^ k ≤ m) (hlt : RN m (-(k : Int)) < INF) : 2 ^ 53 * m ≤ 2 ^ 53 * (V (RN m (-(k : Int))) * 2 ^ k) + m ∧ 2 ^ 53 * (V (RN m (-(k : Int))) * 2 ^ k) ≤ 2 ^ 53 * m + m := by
  have pk := Nat.two_pow_pos k
  have hm : m ≠ 0 := by
    have : 0 < 2 ^ 52 * 2 ^ k := Nat.mul_pos (by decide) pk
    omega
  obtain ⟨f, h1, h2, h3⟩ := RN_near m k hm hlt
  have hON : ON = 2 ^ 52 := by decide
  have hf : ON ≤ f := by
    rcases Nat.lt_or_ge f ON with hf | hf
    · have h4 : V (f + 1) ≤ V ON := V_mono hf
      have h5 : V ON = 2 ^ 52 := by rw [V_flat (by decide)]
      rw [h5] at h4
      have := Nat.mul_le_mul_right (2 ^ k) h4
      omega
    · exact hf
  have h6 : 2 ^ 52 * 2 ^ sh f ≤ V f := by
    unfold V
    apply Nat.mul_le_mul_right
    unfold mg
    rw [if_neg (by omega), hON]
    try exact Nat.le_add_right _ _
  have h7 : 2 ^ 52 * (2 ^ sh f * 2 ^ k) ≤ V f * 2 ^ k := by rw [← Nat.mul_assoc]; exact Nat.mul_le_mul_right _ h6
  generalize 2 ^ sh f * 2 ^ k = Z at *
  have hsucc := V_succ f
  rcases h3 with ⟨h3, h4⟩ | ⟨h3, h4, _⟩ <;> rw [h3]
  · generalize V f * 2 ^ k = X at *
    omega
  · generalize V (f + 1) * 2 ^ k = X at *
    generalize V f * 2 ^ k = Y at *
    omega
/-- Below 2^53 units all is exact. -/
theorem RN_small {m : Nat} (h : m < 2 * ON) : RN m (-((0 : Nat) : Int)) = m := by
  by_cases hm : m = 0
  · subst hm; simp [RN]
  · have h1 := RN_V m (Nat.le_trans (Nat.le_of_lt h) (by decide))
    rw [V_flat h] at h1
    exact h1
/-- No word is too great, where the number is not. -/
theorem RN_fin {m k E : Nat} (hE : E ≤ 2000) (h : m ≤ 2 ^ E * 2 ^ k) : RN m (-(k : Int)) < INF := by
  by_cases hm : m = 0
  · subst hm; simp [RN, INF]
  unfold RN
  rw [if_neg hm]
  generalize hb : bnd m (-(k : Int)) = b
  have e1 : (-(k : Int) - (b : Int)).toNat = 0 := by omega
  have e2 : ((b : Int) - -(k : Int)).toNat = b + k := by omega
  rw [e1, e2, Nat.pow_zero, Nat.mul_one, cut_eq]
  have hl : m.log2 ≤ 2000 + k := by
    rw [← Nat.pow_add] at h
    have h1 := Nat.log2_self_le hm
    rcases Nat.lt_or_ge (E + k) m.log2 with h2 | h2
    · have := Nat.pow_lt_pow_right (a := 2) (by decide) h2; omega
    · omega
  have hb2 : b ≤ 1948 := by unfold bnd at hb; omega
  have hq : m / 2 ^ (b + k) < 2 ^ 53 := by
    apply Nat.div_lt_of_lt_mul
    rw [← Nat.pow_add]
    have h2 : m < 2 ^ (m.log2 + 1) := Nat.lt_log2_self
    unfold bnd at hb
    exact Nat.lt_of_lt_of_le h2 (Nat.pow_le_pow_right (by decide) (by omega))
  have h53 : (2 : Nat) ^ 53 = 2 * ON := by decide
  have hI : INF = 2047 * ON := by decide
  have hON : 1 ≤ ON := by decide
  rw [h53] at hq
  have hs : (if 2 ^ (b + k) < 2 * (m % 2 ^ (b + k)) ∨ (2 ^ (b + k) = 2 * (m % 2 ^ (b + k)) ∧ m / 2 ^ (b + k) % 2 = 1) then 1 else 0) ≤ 1 := by split <;> omega
  have hbn : b * ON ≤ 1948 * ON := Nat.mul_le_mul_right _ hb2
  refine Nat.lt_of_le_of_lt (Nat.min_le_left _ _) ?_
  rw [hI]
  have key : ∀ O W Q S : Nat, 1 ≤ O → W ≤ 1948 * O → Q < 2 * O → S ≤ 1 → W + (Q + S) < 2047 * O := by intros; omega
  exact key ON _ _ _ hON hbn hq hs
end Go.Proofs.Ytnmpofjegepmaaa
