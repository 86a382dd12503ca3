/- Plain laws of layer 1: Join answers the nearest number (PartNearest); no Go in sight. -/
import Derived.Test.YtdincnjmohlgiaaPo
namespace Go.Proofs.Ytdincnjmohlgiaa.Pt
open Go.Proofs.Ytdincnjmohlgiaa.Fl Go.Lib Go.RowKit

theorem spm_wd (n : Bool) {r : Nat} (h : r < INF) : spm (wd n r) = mg r ∧ spe (wd n r) = (sh r : Int) - 1074 ∧ cls (wd n r) < 3 := by
  have hs : r < SG := Nat.lt_trans h (by decide)
  have e := wd_rung n hs
  have e2 : wd n r % ON = r % ON := by
    have : wd n r % ON = wd n r % SG % ON := by simp only [SG, ON]; omega
    rw [this, e]
  refine ⟨?_, ?_, ?_⟩
  · unfold spm mg; rw [e, e2, Nat.add_comm]
  · unfold spe sh; rw [e]
    by_cases c : r < ON
    · rw [if_pos c, Nat.div_eq_of_lt c]; rfl
    · rw [if_neg c]
      have : 1 ≤ r / ON := by rw [Nat.le_div_iff_mul_le (by decide)]; omega
      omega
  · unfold cls; rw [e]
    split
    · decide
    · split
      · decide
      · decide

theorem sgb_wd (n : Bool) {r : Nat} (h : r < SG) : sgb (wd n r) = n := wd_neg n h

/-- What is kept, and what is left out, of a number of at most 62 binary digits in the middle of the range. -/
theorem nearest_facts {m : Nat} {e : Int} (hm : m < 4611686018427387904) (h0 : m ≠ 0) (e1 : -900 < e) (e2 : e < 900) : ∃ (n : Nat) (p : Int) (r : Nat),
    joinN m e = r ∧ r < INF ∧ 0 < r ∧ n = mg r ∧ p = (sh r : Int) - 1074 ∧ n < 9007199254740992 ∧
    ((p ≤ e ∧ e - p < 64 ∧ n = m * 2 ^ (e - p).toNat) ∨
     (e < p ∧ p - e ≤ 10 ∧ ∃ half : Nat, half = 2 ^ ((p - e).toNat - 1) ∧ n * 2 ^ (p - e).toNat < 18446744073709551616 ∧
        ((n = 4503599627370496 ∧ m < n * 2 ^ (p - e).toNat ∧ (n * 2 ^ (p - e).toNat - m) ≤ half / 2) ∨
         (¬ (n = 4503599627370496 ∧ m < n * 2 ^ (p - e).toNat) ∧ (max (n * 2 ^ (p - e).toNat) m - min (n * 2 ^ (p - e).toNat) m < half ∨ (max (n * 2 ^ (p - e).toNat) m - min (n * 2 ^ (p - e).toNat) m = half ∧ n % 2 = 0)))))) := by
  have hm64 : m < 18446744073709551616 := by omega
  obtain ⟨b1, b2, b3, b4⟩ := bitLen_bd hm64 h0
  have hl : lst m e = max (e + (bitLen m : Nat) - 53) (-1074) := rfl
  have b62 : bitLen m ≤ 62 := by
    have : m.log2 < 62 := (Nat.log2_lt h0).2 (by omega)
    rw [bitLen_eq hm64 h0]; omega
  have kb := kpt_bd (e := e) hm64 h0
  have k2 := kb.2.1 (by omega)
  have hk := kb.1
  have hL : lst m e = e + (bitLen m : Nat) - 53 := by omega
  generalize hLL : (lst m e + 1074).toNat = u at *
  have hu : (u : Int) = lst m e + 1074 := by omega
  have hu2 : u ≤ 1990 := by omega
  have hJ : joinN m e = u * ON + kpt m e := by
    unfold joinN
    rw [if_neg (by omega), if_neg (by omega), if_neg (by simp only [ON]; omega), hLL]
    refine Nat.min_eq_left ?_
    have : u * ON ≤ 1990 * ON := Nat.mul_le_mul_right _ hu2
    have h7 : 1990 * ON + 9007199254740992 ≤ INF := by decide
    exact Nat.le_trans (Nat.add_le_add this hk) h7
  have hlt : u * ON + kpt m e < INF := by
    have : u * ON ≤ 1990 * ON := Nat.mul_le_mul_right _ hu2
    have h7 : 1990 * ON + 9007199254740992 < INF := by decide
    exact Nat.lt_of_le_of_lt (Nat.add_le_add this hk) h7
  by_cases c : kpt m e < 9007199254740992
  · -- the significand as it is kept
    have mk : mg (u * ON + kpt m e) = kpt m e ∧ sh (u * ON + kpt m e) = u := by
      have e1' : (u * ON + kpt m e) / ON = u + 1 := by
        have : u * ON + kpt m e = ON * (u + 1) + (kpt m e - ON) := by rw [Nat.mul_add, Nat.mul_comm]; simp only [ON]; omega
        rw [this, Nat.mul_add_div (by decide), Nat.div_eq_of_lt (by simp only [ON]; omega), Nat.add_zero]
      have e2' : (u * ON + kpt m e) % ON = kpt m e - ON := by
        have : u * ON + kpt m e = ON * (u + 1) + (kpt m e - ON) := by rw [Nat.mul_add, Nat.mul_comm]; simp only [ON]; omega
        rw [this, Nat.mul_add_mod]; exact Nat.mod_eq_of_lt (by simp only [ON]; omega)
      have e3' : ¬ (u * ON + kpt m e < ON) := by
        have := Nat.zero_le (u * ON); simp only [ON] at *; omega
      unfold mg sh
      rw [if_neg e3', e1', e2', Nat.add_sub_cancel]
      have e4' : ON + (kpt m e - ON) = kpt m e := by simp only [ON]; omega
      exact ⟨e4', rfl⟩
    refine ⟨kpt m e, lst m e, u * ON + kpt m e, hJ, hlt, by omega, mk.1.symm, by rw [mk.2]; omega, c, ?_⟩
    by_cases c2 : lst m e ≤ e
    · refine .inl ⟨c2, by omega, ?_⟩
      unfold kpt; rw [if_pos c2]
    · refine .inr ⟨by omega, by omega, 2 ^ ((lst m e - e).toNat - 1), rfl, ?_, .inr ?_⟩
      · have : (2 : Nat) ^ (lst m e - e).toNat ≤ 2 ^ 10 := Nat.pow_le_pow_right (by decide) (by omega)
        have h10 : (2 : Nat) ^ 10 = 1024 := by decide
        rw [h10] at this
        have := Nat.mul_le_mul (Nat.le_of_lt c) this
        omega
      · have hr : kpt m e = rnd m (lst m e - e).toNat := by unfold kpt; rw [if_neg c2]
        have hs1 : 1 ≤ (lst m e - e).toNat := by omega
        have hsk : (lst m e - e).toNat = bitLen m - 53 := by omega
        rw [hr]
        generalize (lst m e - e).toNat = s at *
        have ps := two_pow_split hs1
        have pp := Nat.two_pow_pos (s - 1)
        have dm := Nat.div_add_mod m (2 ^ s)
        have ml := Nat.mod_lt m (Nat.two_pow_pos s)
        have b3' : 4503599627370496 * 2 ^ s ≤ m := by
          have e52 : (4503599627370496 : Nat) = 2 ^ 52 := by decide
          rw [e52, ← Nat.pow_add]
          have : bitLen m - 1 = 52 + s := by omega
          rw [← this]; exact b3
        unfold rnd
        generalize hq : m / 2 ^ s = q at *
        generalize hrr : m % 2 ^ s = r at *
        generalize hP : (2 : Nat) ^ s = P at *
        have qP : q * P + r = m := by rw [Nat.mul_comm]; exact dm
        by_cases c3 : P < 2 * r ∨ P = 2 * r ∧ q % 2 = 1
        · rw [if_pos c3, Nat.add_mul, Nat.one_mul]
          generalize hQ : q * P = Q at *
          refine ⟨fun h => ?_, ?_⟩
          · have : q + 1 = 4503599627370496 := h.1
            have : q * P + P = 4503599627370496 * P := by rw [← this, Nat.add_mul, Nat.one_mul]
            omega
          · have e5 : max (Q + P) m - min (Q + P) m = P - r := by omega
            rw [e5]; omega
        · rw [if_neg c3, Nat.add_zero]
          generalize hQ : q * P = Q at *
          refine ⟨fun h => by omega, ?_⟩
          have e5 : max Q m - min Q m = r := by omega
          rw [e5]; omega
  · -- it was rounded up to the next binade
    have c' : kpt m e = 9007199254740992 := by omega
    have c2 : ¬ lst m e ≤ e := fun h => by have := kb.2.2 h; omega
    have mk : mg (u * ON + kpt m e) = 4503599627370496 ∧ sh (u * ON + kpt m e) = u + 1 := by
      rw [c']
      have e0 : u * ON + 9007199254740992 = ON * (u + 2) := by rw [Nat.mul_add, Nat.mul_comm]; simp only [ON]
      rw [e0]
      unfold mg sh
      have e1' : ON * (u + 2) / ON = u + 2 := Nat.mul_div_cancel_left _ (by decide)
      have e2' : ON * (u + 2) % ON = 0 := Nat.mul_mod_right _ _
      have e3' : ¬ ON * (u + 2) < ON := by rw [Nat.mul_add]; simp only [ON]; omega
      rw [if_neg e3', e1', e2']
      exact ⟨rfl, rfl⟩
    refine ⟨4503599627370496, lst m e + 1, u * ON + kpt m e, hJ, hlt, by omega, mk.1.symm, by rw [mk.2]; omega, by decide, .inr ⟨by omega, by omega, 2 ^ ((lst m e + 1 - e).toNat - 1), rfl, ?_, .inl ?_⟩⟩
    · have : (2 : Nat) ^ (lst m e + 1 - e).toNat ≤ 2 ^ 11 := Nat.pow_le_pow_right (by decide) (by omega)
      have h10 : (2 : Nat) ^ 11 = 2048 := by decide
      rw [h10] at this
      have := Nat.mul_le_mul (Nat.le_refl 4503599627370496) this
      omega
    · have hr : rnd m (lst m e - e).toNat = 9007199254740992 := by rw [← c']; unfold kpt; rw [if_neg c2]
      have hs1 : 1 ≤ (lst m e - e).toNat := by omega
      have hsk : (lst m e - e).toNat = bitLen m - 53 := by omega
      have hs2 : (lst m e + 1 - e).toNat = (lst m e - e).toNat + 1 := by omega
      rw [hs2]
      generalize (lst m e - e).toNat = s at *
      have ps := two_pow_split hs1
      have dm := Nat.div_add_mod m (2 ^ s)
      have ml := Nat.mod_lt m (Nat.two_pow_pos s)
      have b4' : m < 9007199254740992 * 2 ^ s := by
        have e53 : (9007199254740992 : Nat) = 2 ^ 53 := by decide
        rw [e53, ← Nat.pow_add]
        have : bitLen m = 53 + s := by omega
        rw [← this]; exact b4
      have e6 : 4503599627370496 * 2 ^ (s + 1) = 9007199254740992 * 2 ^ s := by rw [Nat.pow_succ]; omega
      rw [e6]
      simp only [Nat.add_sub_cancel]
      unfold rnd at hr
      generalize hq : m / 2 ^ s = q at *
      generalize hrr : m % 2 ^ s = r at *
      generalize hP : (2 : Nat) ^ s = P at *
      have qP : q * P + r = m := by rw [Nat.mul_comm]; exact dm
      refine ⟨by trivial, b4', ?_⟩
      by_cases c3 : P < 2 * r ∨ P = 2 * r ∧ q % 2 = 1
      · rw [if_pos c3] at hr
        have : q * P + P = 9007199254740992 * P := by rw [← hr, Nat.add_mul, Nat.one_mul]
        omega
      · rw [if_neg c3] at hr
        have : q * P = 9007199254740992 * P := by rw [← hr, Nat.add_zero]
        omega


theorem RN_zero (p : Int) : RN 0 p = 0 := by unfold RN; rw [if_pos rfl]

/-- The tests of the law's end. -/
def NearEnds (M N W h D : Nat) : Prop :=
  (((N : Int) == 4503599627370496) = false ∧ decide (D < h) = true) ∨
  (((N : Int) == 4503599627370496) = false ∧ decide (D < h) = false ∧ ((D : Int) == (h : Int)) = true ∧ ((N : Int) % 2 == 0) = true) ∨
  (((N : Int) == 4503599627370496) = true ∧ decide (M < W) = false ∧ decide (D < h) = true) ∨
  (((N : Int) == 4503599627370496) = true ∧ decide (M < W) = false ∧ decide (D < h) = false ∧ ((D : Int) == (h : Int)) = true ∧ ((N : Int) % 2 == 0) = true) ∨
  (∃ k : Nat, ((N : Int) == 4503599627370496) = true ∧ decide (M < W) = true ∧ (h : Int) / 2 = k ∧ decide (D < k) = true) ∨
  (∃ k : Nat, ((N : Int) == 4503599627370496) = true ∧ decide (M < W) = true ∧ (h : Int) / 2 = k ∧ decide (D < k) = false ∧ ((D : Int) == (k : Int)) = true ∧ ((N : Int) % 2 == 0) = true)

theorem ends_of {M N W h D : Nat} (hD : D = max W M - min W M)
    (H : (N = 4503599627370496 ∧ M < W ∧ W - M ≤ h / 2) ∨ (¬ (N = 4503599627370496 ∧ M < W) ∧ (D < h ∨ (D = h ∧ N % 2 = 0)))) : NearEnds M N W h D := by
  unfold NearEnds
  rcases H with ⟨h1, h2, h3⟩ | ⟨h1, h2⟩
  · by_cases c : D < h / 2
    · exact .inr (.inr (.inr (.inr (.inl ⟨h / 2, bt (by omega), dt h2, by omega, dt c⟩))))
    · exact .inr (.inr (.inr (.inr (.inr ⟨h / 2, bt (by omega), dt h2, by omega, df c, bt (by omega), bt (by omega)⟩))))
  · by_cases c1 : N = 4503599627370496
    · have c2 : ¬ M < W := fun h => h1 ⟨c1, h⟩
      rcases h2 with h2 | ⟨h2, h3⟩
      · exact .inr (.inr (.inl ⟨bt (by omega), df c2, dt h2⟩))
      · exact .inr (.inr (.inr (.inl ⟨bt (by omega), df c2, df (by omega), bt (by omega), bt (by omega)⟩)))
    · rcases h2 with h2 | ⟨h2, h3⟩
      · exact .inl ⟨bf (by omega), dt h2⟩
      · exact .inr (.inl ⟨bf (by omega), df (by omega), bt (by omega), bt (by omega)⟩)

end Go.Proofs.Ytdincnjmohlgiaa.Pt
