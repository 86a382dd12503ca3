/- What products, sums, quotients and roots round: words of the exact result. -/
import Derived.Test.YtnmpofjegepmaaaR1
import Derived.Test.YtnmpofjegepmaaaK2
namespace Go.Proofs.Ytnmpofjegepmaaa
open Go.Proofs.Ytnmpofjegepmaaa.Fl
open Ieee

theorem ky_abs (x : Nat) : (ky x).natAbs = Fl.V (x % SG) := by unfold ky sg; split <;> simp
theorem RN_k0 (m : Nat) : RN m 0 = RN m (-((0 : Nat) : Int)) := rfl

theorem mul_word {x y : Nat} (hx : fin x) (hy : fin y) : N2 .mul x y = wd (decide (SG ≤ x) ^^ decide (SG ≤ y)) (RN (Fl.V (x % SG) * Fl.V (y % SG)) (-((1074 : Nat) : Int))) := by
  rw [N2_of (op := .mul) (mul_fin hx hy), ky_abs, ky_abs]; rfl
theorem add_word {x y : Nat} (hx : fin x) (hy : fin y) : N2 .add x y = wd (if ky x + ky y = 0 then decide (SG ≤ x) && decide (SG ≤ y) else decide (ky x + ky y < 0)) (RN (ky x + ky y).natAbs (-((0 : Nat) : Int))) := by
  rw [N2_of (op := .add) (add_fin hx hy)]; rfl

/-- A word's rung goes up with its binade. -/
theorem sh_mono {a b : Nat} (h : a ≤ b) : sh a ≤ sh b := by
  unfold sh
  have := Nat.div_le_div_right (c := ON) h
  omega
theorem log2_mg (r : Nat) : (mg r).log2 ≤ 52 := by
  by_cases h0 : mg r = 0
  · rw [h0]; decide
  · have := (Nat.log2_lt h0).2 (mg_lt r); omega
theorem RN_split (Q : Nat) (p : Int) : RN Q p = RN (Q * 2 ^ p.toNat) (-(((-p).toNat : Nat) : Int)) := by
  have := RN_scale Q p.toNat p
  rw [← this]
  congr 1
  omega

/-- The quotient: a whole number of units 'Q' near it, which is what is rounded. -/
theorem quo_word {x y : Nat} (hx : fin x) (hy : fin y) (hx0 : Fl.V (x % SG) ≠ 0) (hy0 : Fl.V (y % SG) ≠ 0) : ∃ Q k s, N2 .quo x y = wd s (RN Q (-((k : Nat) : Int))) ∧ s = (decide (SG ≤ x) ^^ decide (SG ≤ y)) ∧
    2 ^ 54 * (Q * Fl.V (y % SG)) ≤ 2 ^ 54 * (Fl.V (x % SG) * 2 ^ (1074 + k)) + Q * Fl.V (y % SG) ∧ 2 ^ 54 * (Fl.V (x % SG) * 2 ^ (1074 + k)) ≤ 2 ^ 54 * (Q * Fl.V (y % SG)) + Q * Fl.V (y % SG) ∧
    (Fl.V (x % SG) ≤ Fl.V (y % SG) → Q ≤ 2 ^ (1074 + k)) := by
  have hdiv : double.div x y = ((Datum.quotient 54 (double.read x) (double.read y)).map double.write) := rfl
  rw [read_fin hx, read_fin hy] at hdiv
  generalize hX : x % SG = X at *
  generalize hY : y % SG = Y at *
  have hm0 : mg X ≠ 0 := by intro h; apply hx0; unfold Fl.V; rw [h, Nat.zero_mul]
  have hn0 : mg Y ≠ 0 := by intro h; apply hy0; unfold Fl.V; rw [h, Nat.zero_mul]
  unfold Datum.quotient at hdiv
  simp only [if_neg hn0, Option.map_some] at hdiv
  rw [write_number] at hdiv
  generalize hmore : 54 + (mg Y).log2 - (mg X).log2 = more at hdiv
  have hlx := log2_mg X
  have hmore2 : 54 + (mg Y).log2 = more + (mg X).log2 := by omega
  rw [Nat.shiftLeft_eq] at hdiv
  generalize hD : mg X * 2 ^ more = D at *
  generalize hst : (D % mg Y != 0).toNat = st at *
  generalize hp : (-1074 + (sh X : Int) - (-1074 + (sh Y : Int)) - (more : Int) - 1 + 1074) = p at *
  rw [RN_split] at hdiv
  -- the quotient's own size
  have hn := Nat.pos_of_ne_zero hn0
  have hdm := Nat.div_add_mod D (mg Y)
  have hml := Nat.mod_lt D hn
  have hst1 : st ≤ 1 := by rw [← hst]; cases (D % mg Y != 0) <;> simp
  have hst0 : st = 0 → D % mg Y = 0 := by
    intro h
    by_cases h2 : D % mg Y = 0
    · exact h2
    · exfalso
      have : (D % mg Y != 0) = true := by simpa using h2
      rw [this] at hst; simp at hst; omega
  have hst2 : D % mg Y = 0 → st = 0 := by intro h; rw [← hst, h]; rfl
  have hq : 2 ^ 53 ≤ D / mg Y := by
    rw [Nat.le_div_iff_mul_le hn]
    have h1 := Nat.log2_self_le hm0
    have h2 : mg Y < 2 ^ ((mg Y).log2 + 1) := Nat.lt_log2_self
    have h3 : 2 ^ 53 * 2 ^ ((mg Y).log2 + 1) = 2 ^ (mg X).log2 * 2 ^ more := by rw [← Nat.pow_add, ← Nat.pow_add]; congr 1; omega
    have h4 : 2 ^ (mg X).log2 * 2 ^ more ≤ D := by rw [← hD]; exact Nat.mul_le_mul_right _ h1
    have h5 : 2 ^ 53 * mg Y ≤ 2 ^ 53 * 2 ^ ((mg Y).log2 + 1) := Nat.mul_le_mul_left _ (Nat.le_of_lt h2)
    omega
  generalize hF : D / mg Y = F at *
  generalize hR : D % mg Y = R at *
  refine ⟨(2 * F + st) * 2 ^ p.toNat, (-p).toNat, decide (SG ≤ x) ^^ decide (SG ≤ y), N2_of (op := .quo) hdiv, rfl, ?_⟩
  generalize hk : (-p).toNat = k at *
  generalize he : p.toNat = e at *
  have hpe : (e : Int) - (k : Int) = p := by omega
  -- Fl.V X * 2^(1074 + k) = 2 * D * 2^e * 2^(sh Y), in the end
  have hE : sh X + (1074 + k) = more + (1 + e) + sh Y := by omega
  have hV : Fl.V X * 2 ^ (1074 + k) = 2 * D * 2 ^ e * 2 ^ sh Y := by
    have h1 : Fl.V X * 2 ^ (1074 + k) = mg X * 2 ^ (sh X + (1074 + k)) := by unfold Fl.V; rw [Nat.mul_assoc, ← Nat.pow_add]
    rw [h1, hE, Nat.pow_add, Nat.pow_add, Nat.pow_add, Nat.pow_one, ← hD]
    simp only [Nat.mul_assoc, Nat.mul_comm, Nat.mul_left_comm]
  have hVY : Fl.V Y = mg Y * 2 ^ sh Y := rfl
  have hQ : (2 * F + st) * 2 ^ e * Fl.V Y = (2 * F + st) * mg Y * (2 ^ e * 2 ^ sh Y) := by
    rw [hVY]; simp only [Nat.mul_assoc, Nat.mul_comm, Nat.mul_left_comm]
  have hV2 : Fl.V X * 2 ^ (1074 + k) = 2 * D * (2 ^ e * 2 ^ sh Y) := by rw [hV, Nat.mul_assoc]
  rw [hQ, hV2]
  have hZ : 0 < 2 ^ e * 2 ^ sh Y := Nat.mul_pos (Nat.two_pow_pos _) (Nat.two_pow_pos _)
  have c1 : (2 * F + st) * mg Y ≤ 2 * D + mg Y := by
    have : (2 * F + st) * mg Y = 2 * (mg Y * F) + st * mg Y := by rw [Nat.add_mul, Nat.mul_assoc, Nat.mul_comm F]
    have h2 : st * mg Y ≤ 1 * mg Y := Nat.mul_le_mul_right _ hst1
    omega
  have c2 : 2 * D ≤ (2 * F + st) * mg Y + mg Y := by
    have h1 : (2 * F + st) * mg Y = 2 * (mg Y * F) + st * mg Y := by rw [Nat.add_mul, Nat.mul_assoc, Nat.mul_comm F]
    rcases Nat.eq_zero_or_pos st with h | h
    · have := hst0 h; rw [h1, h]; omega
    · have h2 : 1 * mg Y ≤ st * mg Y := Nat.mul_le_mul_right _ h
      omega
  have c3 : 2 ^ 54 * mg Y ≤ (2 * F + st) * mg Y := Nat.mul_le_mul_right _ (by omega)
  generalize hT : (2 * F + st) * mg Y = T at *
  generalize 2 ^ e * 2 ^ sh Y = Z at *
  refine ⟨?_, ?_, ?_⟩
  · have : 2 ^ 54 * T ≤ 2 ^ 54 * (2 * D) + T := by omega
    have := Nat.mul_le_mul_right Z this
    rwa [Nat.add_mul, Nat.mul_assoc, Nat.mul_assoc (2 ^ 54) (2 * D)] at this
  · have : 2 ^ 54 * (2 * D) ≤ 2 ^ 54 * T + T := by omega
    have := Nat.mul_le_mul_right Z this
    rwa [Nat.add_mul, Nat.mul_assoc (2 ^ 54) T, Nat.mul_assoc (2 ^ 54) (2 * D)] at this
  · intro hle
    have hXY : X ≤ Y := by
      rcases Nat.lt_or_ge Y X with h | h
      · have := V_lt h; omega
      · exact h
    have hsh := sh_mono hXY
    -- D ≤ mg Y * 2^(more + sh Y - sh X)
    obtain ⟨B, hB⟩ : ∃ B, B = more + (sh Y - sh X) := ⟨_, rfl⟩
    have hDB : D ≤ mg Y * 2 ^ B := by
      have h1 : mg X * 2 ^ sh X ≤ mg Y * 2 ^ sh Y := hle
      have h2 : mg Y * 2 ^ sh Y = (mg Y * 2 ^ (sh Y - sh X)) * 2 ^ sh X := by rw [Nat.mul_assoc, ← Nat.pow_add]; congr 2; omega
      rw [h2] at h1
      have h3 := Nat.le_of_mul_le_mul_right h1 (Nat.two_pow_pos _)
      rw [← hD, hB, Nat.add_comm, Nat.pow_add, ← Nat.mul_assoc]
      exact Nat.mul_le_mul_right _ h3
    have hFB : 2 * F + st ≤ 2 * 2 ^ B := by
      have h1 : mg Y * F ≤ mg Y * 2 ^ B := by omega
      have h2 : F ≤ 2 ^ B := Nat.le_of_mul_le_mul_left h1 hn
      rcases Nat.lt_or_eq_of_le h2 with h | h
      · omega
      · have h3 : R = 0 := by rw [h] at hdm; omega
        have := hst2 h3
        omega
    have h4 : 2 * 2 ^ B * 2 ^ e = 2 ^ (1074 + k) := by
      rw [← Nat.pow_succ', ← Nat.pow_add]; congr 1; omega
    rw [← h4]
    exact Nat.mul_le_mul_right _ hFB

theorem rootFrom_whole (n : Nat) : ∀ todo root : Nat, root * root ≤ n → n < (root + 2 ^ todo) * (root + 2 ^ todo) → (Datum.rootFrom n todo root) * (Datum.rootFrom n todo root) ≤ n ∧ n < (Datum.rootFrom n todo root + 1) * (Datum.rootFrom n todo root + 1) := by
  intro todo
  induction todo with
  | zero => intro root h1 h2; unfold Datum.rootFrom; exact ⟨h1, by simpa using h2⟩
  | succ t ih =>
    intro root h1 h2
    unfold Datum.rootFrom
    simp only [Nat.one_shiftLeft] at *
    have hp : (2 : Nat) ^ (t + 1) = 2 ^ t + 2 ^ t := by rw [Nat.pow_succ]; omega
    by_cases h : (root + 2 ^ t) * (root + 2 ^ t) ≤ n
    · rw [if_pos h]
      exact ih _ h (by rw [Nat.add_assoc, ← hp]; exact h2)
    · rw [if_neg h]
      exact ih _ h1 (by omega)
theorem sq_sq (a P : Nat) : a * P * (a * P) = a * a * (P * P) := Nat.mul_mul_mul_comm a P a P
set_option exponentiation.threshold 4000 in
/-- The root: a whole number of units 'Q' near it, which is what is rounded. -/
theorem sqrt_word {x : Nat} (hx : fin x) (hs : x < SG) (h0 : 849 * ON ≤ x) (h1 : x < 1080 * ON) : ∃ Q P p, double.sqrt x = some (RN (Q * P) (-((0 : Nat) : Int))) ∧ P = 2 ^ p ∧ 2 ^ 54 ≤ Q ∧ (Q - 1) * P * ((Q - 1) * P) ≤ Fl.V x * 2 ^ 1074 ∧ Fl.V x * 2 ^ 1074 ≤ (Q + 1) * P * ((Q + 1) * P) ∧ (2 ^ 1074 ≤ Fl.V x → 2 ^ 1074 ≤ Q * P) := by
  have hdiv : double.sqrt x = ((Datum.root 54 (double.read x)).map double.write) := rfl
  have hneg : decide (SG ≤ x) = false := by simpa using hs
  rw [read_fin hx, hneg, Nat.mod_eq_of_lt hs] at hdiv
  have hON : 0 < ON := by decide
  have hsh1 : 848 ≤ sh x := by
    unfold sh
    have : 849 ≤ x / ON := (Nat.le_div_iff_mul_le hON).2 h0
    omega
  have hsh2 : sh x ≤ 1078 := by
    unfold sh
    have : x / ON < 1080 := (Nat.div_lt_iff_lt_mul hON).2 h1
    omega
  have hm0 : mg x ≠ 0 := by
    unfold mg
    rw [if_neg (by omega)]; omega
  have hV : Fl.V x = mg x * 2 ^ sh x := rfl
  rw [hV]
  have hlog := log2_mg x
  unfold Datum.root at hdiv
  simp only [if_neg hm0, Bool.false_eq_true, if_false, Option.map_some] at hdiv
  rw [write_number] at hdiv
  generalize sh x = t at *
  have hm1 := Nat.log2_self_le hm0
  generalize mg x = m at *
  clear hV
  generalize hmore : 2 * 54 - m.log2 + ((-1074 + (t : Int) - ((2 * 54 - m.log2 : Nat) : Int)) % 2).toNat = more at hdiv
  obtain ⟨g, hg⟩ : ∃ g : Nat, more + 1074 = 2 * g + t := ⟨(more + 1074 - t) / 2, by omega⟩
  have hmore2 : 108 ≤ more + m.log2 := by omega
  have hmore3 : more ≤ 109 := by omega
  have hgp : g ≤ 1073 := by omega
  rw [Nat.shiftLeft_eq] at hdiv
  generalize hn : m * 2 ^ more = n at *
  have hn108 : 2 ^ 108 ≤ n := by
    rw [← hn]
    have h3 : 2 ^ 108 ≤ 2 ^ (m.log2 + more) := Nat.pow_le_pow_right (by decide) (by omega)
    rw [Nat.pow_add] at h3
    exact Nat.le_trans h3 (Nat.mul_le_mul_right _ hm1)
  obtain ⟨w1, w2⟩ := rootFrom_whole n (n.log2 / 2 + 1) 0 (Nat.zero_le _) (by
    rw [Nat.zero_add, ← Nat.pow_add]
    exact Nat.lt_of_lt_of_le Nat.lt_log2_self (Nat.pow_le_pow_right (by decide) (by omega)))
  generalize hwh : Datum.rootFrom n (n.log2 / 2 + 1) 0 = W at *
  generalize hst : (W * W != n).toNat = st at *
  have hst1 : st ≤ 1 := by rw [← hst]; cases (W * W != n) <;> simp
  have hst0 : st = 0 → W * W = n := by
    intro h
    by_cases h2 : W * W = n
    · exact h2
    · exfalso
      have : (W * W != n) = true := by simpa using h2
      rw [this] at hst; simp at hst; omega
  have hp : (-1074 + (t : Int) - (more : Int)) / 2 - 1 + 1074 = ((1073 - g : Nat) : Int) := by omega
  rw [hp] at hdiv
  generalize hpp : 1073 - g = p at *
  have hsc := RN_scale (2 * W + st) p (p : Int)
  rw [Int.sub_self] at hsc
  rw [← hsc, show ∀ r, wd false r = r by intro r; unfold wd; simp] at hdiv
  have e4 : m * 2 ^ t * 2 ^ 1074 = 4 * n * (2 ^ p * 2 ^ p) := by
    have a1 : m * 2 ^ t * 2 ^ 1074 = m * 2 ^ (t + 1074) := by rw [Nat.mul_assoc, ← Nat.pow_add]
    have a2 : 4 * n * (2 ^ p * 2 ^ p) = m * 2 ^ (2 + more + (p + p)) := by
      rw [← hn, Nat.pow_add, Nat.pow_add, Nat.pow_add]
      simp only [Nat.mul_assoc, Nat.mul_comm, Nat.mul_left_comm]
    rw [a1, a2, show 2 + more + (p + p) = t + 1074 by omega]
  have hWlow : ∀ K : Nat, K * K ≤ n → K ≤ W := by
    intro K hK
    rcases Nat.lt_or_ge W K with h | h
    · have := Nat.mul_le_mul (show W + 1 ≤ K from h) (show W + 1 ≤ K from h); omega
    · exact h
  have hW53 : 2 ^ 53 ≤ W := hWlow _ (by rw [← Nat.pow_add]; exact Nat.le_trans (Nat.pow_le_pow_right (by decide) (by decide)) hn108)
  refine ⟨2 * W + st, 2 ^ p, p, hdiv, rfl, by omega, ?_, ?_, ?_⟩
  · rw [sq_sq, e4]
    apply Nat.mul_le_mul_right
    have : (2 * W + st - 1) * (2 * W + st - 1) ≤ (2 * W) * (2 * W) := Nat.mul_le_mul (by omega) (by omega)
    have e : (2 * W) * (2 * W) = 4 * (W * W) := by rw [Nat.mul_mul_mul_comm]
    omega
  · rw [sq_sq, e4]
    apply Nat.mul_le_mul_right
    rcases Nat.eq_zero_or_pos st with h | h
    · have h3 := hst0 h
      have : (2 * W) * (2 * W) ≤ (2 * W + st + 1) * (2 * W + st + 1) := Nat.mul_le_mul (by omega) (by omega)
      have e : (2 * W) * (2 * W) = 4 * (W * W) := by rw [Nat.mul_mul_mul_comm]
      omega
    · have : (2 * (W + 1)) * (2 * (W + 1)) ≤ (2 * W + st + 1) * (2 * W + st + 1) := Nat.mul_le_mul (by omega) (by omega)
      have e : (2 * (W + 1)) * (2 * (W + 1)) = 4 * ((W + 1) * (W + 1)) := by rw [Nat.mul_mul_mul_comm]
      omega
  · intro hge
    have h3 : 2 ^ (g + 1) * 2 ^ p = 2 ^ 1074 := by rw [← Nat.pow_add, show g + 1 + p = 1074 by omega]
    have h4 : 2 ^ 1074 * 2 ^ 1074 ≤ 4 * n * (2 ^ p * 2 ^ p) := by rw [← e4]; exact Nat.mul_le_mul_right _ hge
    rw [← h3, sq_sq] at h4
    have h5 := Nat.le_of_mul_le_mul_right h4 (Nat.mul_pos (Nat.two_pow_pos p) (Nat.two_pow_pos p))
    have h6 : 2 ^ (g + 1) * 2 ^ (g + 1) = 4 * (2 ^ g * 2 ^ g) := by rw [Nat.pow_succ, Nat.mul_mul_mul_comm, Nat.mul_comm]
    have h7 : 2 ^ g ≤ W := hWlow _ (by omega)
    rw [← h3]
    apply Nat.mul_le_mul_right
    rw [Nat.pow_succ]; omega
end Go.Proofs.Ytnmpofjegepmaaa
