/- Plain laws of binary floating point over the model's Ieee: order, sums, products, rounding; no Go in sight. -/
import Ieee.Arith
import Derived.Laws.FloatBits
namespace Go.Proofs.YtnghppgpdeghfaaGreatDoor.Fl
open Ieee

abbrev SG : Nat := 9223372036854775808
abbrev ON : Nat := 4503599627370496
abbrev INF : Nat := 9218868437227405312

/-- A rung's binade above the subnormal ones. -/
def sh (r : Nat) : Nat := r / ON - 1
/-- A rung's significand. -/
def mg (r : Nat) : Nat := if r < ON then r else ON + r % ON
/-- A rung's magnitude, in units of 2^-1074. -/
def V (r : Nat) : Nat := mg r * 2 ^ sh r

theorem sw : double.signWeight = SG := by decide
theorem bn : double.binade = ON := by decide
theorem ir : double.infRung = INF := by decide
theorem lp : double.leastPlace = -1074 := by decide

theorem read_eq (b : Nat) : double.read b = if b % SG < INF then .number (b / SG % 2 == 1) (mg (b % SG)) (-1074 + (sh (b % SG) : Nat)) else if b % SG = INF then .infinity (b / SG % 2 == 1) else .nan (b / SG % 2 == 1) (b % SG - INF) := by
  unfold Format.read
  rw [sw, bn, ir, lp]
  simp only
  unfold mg sh
  by_cases h1 : b % SG < ON
  · have h2 : b % SG < INF := by unfold INF; unfold ON at h1; omega
    have h3 : b % SG / ON = 0 := Nat.div_eq_of_lt h1
    rw [if_pos h1, if_pos h2, if_pos h1, h3]
    simp
  · rw [if_neg h1, if_neg h1]

theorem V_small {r : Nat} (h : r < ON) : V r = r := by
  have h3 : r / ON = 0 := Nat.div_eq_of_lt h
  simp [V, mg, sh, h, h3]

theorem V_succ (r : Nat) : V r + 2 ^ sh r = V (r + 1) := by
  unfold V mg sh
  by_cases h : r + 1 < ON
  · have h0 : r < ON := by omega
    have h1 : r / ON = 0 := Nat.div_eq_of_lt h0
    have h2 : (r + 1) / ON = 0 := Nat.div_eq_of_lt h
    rw [if_pos h, if_pos h0, h1, h2]; simp
  · by_cases h0 : r < ON
    · have : r = ON - 1 := by omega
      subst this; decide
    · rw [if_neg h0, if_neg h]
      have e1 := Nat.div_add_mod r ON
      have l1 := Nat.mod_lt r (show 0 < ON by decide)
      by_cases h4 : r % ON = ON - 1
      · have e2 : r + 1 = ON * (r / ON + 1) := by
          rw [Nat.mul_add]; omega
        have e3 : (r + 1) / ON = r / ON + 1 := by rw [e2]; exact Nat.mul_div_cancel_left _ (by decide)
        have e4 : (r + 1) % ON = 0 := by rw [e2]; exact Nat.mul_mod_right _ _
        have e5 : 1 ≤ r / ON := by rw [Nat.le_div_iff_mul_le (by decide)]; omega
        rw [e3, e4, h4]
        obtain ⟨k, hk⟩ : ∃ k, r / ON = k + 1 := ⟨r / ON - 1, by omega⟩
        rw [hk, show k + 1 + 1 - 1 = k + 1 from rfl, show k + 1 - 1 = k from rfl, Nat.pow_succ]
        generalize 2 ^ k = p
        have : (ON + (ON - 1)) = 2 * ON - 1 := by decide
        rw [this]
        have : (2 * ON - 1) * p + p = 2 * ON * p := by rw [← Nat.succ_mul]; congr 1
        rw [this]
        simp [Nat.mul_comm, Nat.mul_assoc]
      · have h5 : r % ON + 1 < ON := by simp only [ON] at h4 l1 ⊢; omega
        have e2 : r + 1 = ON * (r / ON) + (r % ON + 1) := by omega
        have e3 : (r + 1) / ON = r / ON := by
          rw [e2, Nat.mul_add_div (by decide), Nat.div_eq_of_lt h5, Nat.add_zero]
        have e4 : (r + 1) % ON = r % ON + 1 := by
          rw [e2, Nat.mul_add_mod]; exact Nat.mod_eq_of_lt h5
        rw [e3, e4, ← Nat.add_assoc, Nat.add_mul _ 1, Nat.one_mul]

theorem V_lt_succ (r : Nat) : V r < V (r + 1) := by
  have := V_succ r
  have : 0 < 2 ^ sh r := Nat.two_pow_pos _
  omega

theorem V_lt {a b : Nat} (h : a < b) : V a < V b := by
  obtain ⟨k, rfl⟩ : ∃ k, b = a + k + 1 := ⟨b - a - 1, by omega⟩
  clear h
  induction k with
  | zero => exact V_lt_succ a
  | succ k ih => exact Nat.lt_trans ih (V_lt_succ _)

theorem V_lt_iff {a b : Nat} : V a < V b ↔ a < b := by
  constructor
  · intro h
    refine Nat.lt_of_not_le fun h' => ?_
    rcases Nat.lt_or_eq_of_le h' with h'' | rfl
    · have := V_lt h''; omega
    · omega
  · exact V_lt

theorem V_inj {a b : Nat} (h : V a = V b) : a = b := by
  rcases Nat.lt_trichotomy a b with h' | h' | h'
  · have := V_lt h'; omega
  · exact h'
  · have := V_lt h'; omega

theorem V_zero : V 0 = 0 := by decide


/-- A signed magnitude. -/
def sg (neg : Bool) (n : Nat) : Int := if neg then -(n : Int) else n

theorem signed_eq (s : Bool) (m up : Nat) : Ieee.signed s m up = sg s (m * 2 ^ up) := by
  unfold Ieee.signed sg; rw [Nat.shiftLeft_eq]

theorem sg_mul (s : Bool) (m k : Nat) : sg s (m * k) = sg s m * (k : Int) := by
  unfold sg; cases s <;> simp [Int.neg_mul]

theorem cmp_int (x y : Int) : compare x y = if x < y then .lt else if x = y then .eq else .gt := rfl

theorem cmp_scale (x y : Int) (k : Int) (hk : 0 < k) : compare (x * k) (y * k) = compare x y := by
  rw [cmp_int, cmp_int]
  by_cases h : x < y
  · rw [if_pos h, if_pos (Int.mul_lt_mul_of_pos_right h hk)]
  · have h' : ¬ x * k < y * k := by
      intro h2; exact h (Int.lt_of_mul_lt_mul_right h2 (Int.le_of_lt hk))
    rw [if_neg h, if_neg h']
    by_cases h3 : x = y
    · rw [if_pos h3, if_pos (by rw [h3])]
    · have h4 : ¬ x * k = y * k := by
        intro h5; exact h3 (Int.eq_of_mul_eq_mul_right (Int.ne_of_gt hk) h5)
      rw [if_neg h3, if_neg h4]

theorem cmp_lt {x y : Int} (h : x < y) : compare x y = .lt := by rw [cmp_int, if_pos h]
theorem cmp_gt {x y : Int} (h : y < x) : compare x y = .gt := by rw [cmp_int, if_neg (by omega), if_neg (by omega)]
theorem cmp_eq {x y : Int} (h : x = y) : compare x y = .eq := by rw [cmp_int, if_neg (by omega), if_pos h]

/-- A word's place in the order of numbers. -/
def rk (b : Nat) : Int := if SG ≤ b then -((b - SG : Nat) : Int) else b
def nan (b : Nat) : Bool := decide (INF < b % SG)

/-- The number that a word stands for, in units of 2^-1074 (infinity as 2^1024). -/
def ky (b : Nat) : Int := sg (decide (SG ≤ b)) (V (b % SG))

theorem sgn_eq {b : Nat} (h : b < 18446744073709551616) : (b / SG % 2 == 1) = decide (SG ≤ b) := by
  rw [Bool.eq_iff_iff]; simp only [beq_iff_eq, decide_eq_true_eq]; unfold SG; omega

theorem cmp_sg (s t : Bool) (a b : Nat) : compare (sg s (V a)) (sg t (V b)) = compare (sg s a) (sg t b) := by
  have pa : 0 < a → 0 < V a := fun h => by have := V_lt h; rw [V_zero] at this; exact this
  have pb : 0 < b → 0 < V b := fun h => by have := V_lt h; rw [V_zero] at this; exact this
  have za : a = 0 → V a = 0 := fun h => by rw [h, V_zero]
  have zb : b = 0 → V b = 0 := fun h => by rw [h, V_zero]
  have l1 := @V_lt_iff a b
  have l2 := @V_lt_iff b a
  rw [cmp_int, cmp_int]
  have e1 : (sg s (V a) < sg t (V b)) ↔ (sg s a < sg t b) := by
    unfold sg; cases s <;> cases t <;> simp <;> omega
  have e2 : (sg s (V a) = sg t (V b)) ↔ (sg s a = sg t b) := by
    unfold sg; cases s <;> cases t <;> simp <;> omega
  simp only [e1, e2]

theorem rk_eq {b : Nat} (h : b < 18446744073709551616) : rk b = sg (decide (SG ≤ b)) (b % SG) := by
  unfold rk sg
  by_cases h1 : SG ≤ b
  · simp only [h1, decide_true, if_true]
    have : b % SG = b - SG := by unfold SG at *; omega
    rw [this]
  · simp only [h1, decide_false, if_false]
    have : b % SG = b := by unfold SG at *; omega
    rw [this]; rfl

theorem cmp_ky {a b : Nat} (ha : a < 18446744073709551616) (hb : b < 18446744073709551616) : compare (ky a) (ky b) = compare (rk a) (rk b) := by
  rw [rk_eq ha, rk_eq hb]; exact cmp_sg _ _ _ _

theorem order_eq {a b : Nat} (ha : a < 18446744073709551616) (hb : b < 18446744073709551616) :
    double.order a b = if nan a || nan b then none else some (compare (rk a) (rk b)) := by
  unfold Format.order
  rw [read_eq, read_eq, sgn_eq ha, sgn_eq hb, rk_eq ha, rk_eq hb, ← cmp_sg]
  unfold nan
  have ma : a % SG < SG := Nat.mod_lt _ (by decide)
  have mb : b % SG < SG := Nat.mod_lt _ (by decide)
  generalize a % SG = r at *
  generalize b % SG = q at *
  generalize decide (SG ≤ a) = s
  generalize decide (SG ≤ b) = t
  have vr : r < INF → V r < V INF := V_lt
  have vq : q < INF → V q < V INF := V_lt
  have vp : 0 < V INF := by have := V_lt (a := 0) (b := INF) (by decide); rw [V_zero] at this; exact this
  by_cases h1 : r < INF
  · have n1 : decide (INF < r) = false := by simp; omega
    rw [if_pos h1, n1]
    by_cases h2 : q < INF
    · have n2 : decide (INF < q) = false := by simp; omega
      rw [if_pos h2, n2]
      simp only [Datum.order, Bool.or_self, Bool.false_eq_true, if_false]
      rw [signed_eq, signed_eq]
      congr 1
      -- one scale
      have hr : ∃ c : Nat, (V r = mg r * 2 ^ (-1074 + (sh r : Int) - min (-1074 + (sh r : Int)) (-1074 + (sh q : Int))).toNat * 2 ^ c) ∧ (V q = mg q * 2 ^ (-1074 + (sh q : Int) - min (-1074 + (sh r : Int)) (-1074 + (sh q : Int))).toNat * 2 ^ c) := by
        refine ⟨min (sh r) (sh q), ?_, ?_⟩
        · unfold V; rw [Nat.mul_assoc, ← Nat.pow_add]; congr 2; omega
        · unfold V; rw [Nat.mul_assoc, ← Nat.pow_add]; congr 2; omega
      obtain ⟨c, e1, e2⟩ := hr
      rw [e1, e2, sg_mul s _ (2 ^ c), sg_mul t _ (2 ^ c), cmp_scale _ _ _ (by exact_mod_cast Nat.two_pow_pos c)]
    · rw [if_neg h2]
      by_cases h3 : q = INF
      · have n2 : decide (INF < q) = false := by simp; omega
        rw [if_pos h3, n2]
        simp only [Datum.order, Bool.or_self, Bool.false_eq_true, if_false]
        have := vr h1
        subst h3
        generalize V INF = v at *
        congr 1
        unfold sg
        cases t
        · exact (cmp_lt (by cases s <;> simp <;> omega)).symm
        · exact (cmp_gt (by cases s <;> simp <;> omega)).symm
      · have n2 : decide (INF < q) = true := by simp; omega
        rw [if_neg h3, n2]
        simp [Datum.order]
  · rw [if_neg h1]
    by_cases h4 : r = INF
    · have n1 : decide (INF < r) = false := by simp; omega
      rw [if_pos h4, n1]
      by_cases h2 : q < INF
      · have n2 : decide (INF < q) = false := by simp; omega
        rw [if_pos h2, n2]
        simp only [Datum.order, Bool.or_self, Bool.false_eq_true, if_false]
        have := vq h2
        subst h4
        generalize V INF = v at *
        congr 1
        unfold sg
        cases s
        · exact (cmp_gt (by cases t <;> simp <;> omega)).symm
        · exact (cmp_lt (by cases t <;> simp <;> omega)).symm
      · rw [if_neg h2]
        by_cases h3 : q = INF
        · have n2 : decide (INF < q) = false := by simp; omega
          rw [if_pos h3, n2]
          simp only [Datum.order, Bool.or_self, Bool.false_eq_true, if_false]
          subst h4; subst h3
          generalize V INF = v at *
          congr 1
          unfold sg
          cases s <;> cases t
          · exact (cmp_eq rfl).symm
          · exact (cmp_gt (by simp; omega)).symm
          · exact (cmp_lt (by simp; omega)).symm
          · exact (cmp_eq rfl).symm
        · have n2 : decide (INF < q) = true := by simp; omega
          rw [if_neg h3, n2]
          simp [Datum.order]
    · have n1 : decide (INF < r) = true := by simp; omega
      rw [if_neg h4, n1]
      simp [Datum.order]

/-! rounding -/
theorem cut_eq (neg : Bool) (n d : Nat) : Toward.even.cut neg n d = n / 2 ^ d + (if 2 ^ d < 2 * (n % 2 ^ d) ∨ (2 ^ d = 2 * (n % 2 ^ d) ∧ n / 2 ^ d % 2 = 1) then 1 else 0) := by
  have key : ∀ g, (n / g + (g < 2 * (n % g) || (g == 2 * (n % g) && n / g % 2 == 1)).toNat) = n / g + (if g < 2 * (n % g) ∨ (g = 2 * (n % g) ∧ n / g % 2 = 1) then 1 else 0) := by
    intro g
    congr 1
    by_cases h : g < 2 * (n % g) ∨ (g = 2 * (n % g) ∧ n / g % 2 = 1)
    · rw [if_pos h]
      have : (decide (g < 2 * (n % g)) || (g == 2 * (n % g) && n / g % 2 == 1)) = true := by simpa using h
      rw [this]; rfl
    · rw [if_neg h]
      have : (decide (g < 2 * (n % g)) || (g == 2 * (n % g) && n / g % 2 == 1)) = false := by
        rw [Bool.eq_false_iff]; intro h2; exact h (by simpa using h2)
      rw [this]; rfl
  unfold Toward.cut
  simp only
  rw [Nat.shiftLeft_eq, Nat.one_mul, key]
  by_cases h : d ≤ n.log2 + 2
  · rw [Nat.min_eq_left h]
  · have h1 : n.log2 + 2 ≤ d := by omega
    rw [Nat.min_eq_right h1]
    have a1 : n < 2 ^ (n.log2 + 1) := Nat.lt_log2_self
    have a2 : 2 ^ (n.log2 + 2) = 2 * 2 ^ (n.log2 + 1) := by rw [Nat.pow_succ]; omega
    have a3 : 2 ^ (n.log2 + 2) ≤ 2 ^ d := Nat.pow_le_pow_right (by decide) h1
    have b1 : n / 2 ^ (n.log2 + 2) = 0 := Nat.div_eq_of_lt (by omega)
    have b2 : n % 2 ^ (n.log2 + 2) = n := Nat.mod_eq_of_lt (by omega)
    have b3 : n / 2 ^ d = 0 := Nat.div_eq_of_lt (by omega)
    have b4 : n % 2 ^ d = n := Nat.mod_eq_of_lt (by omega)
    rw [b1, b2, b3, b4, if_neg (by omega), if_neg (by omega)]

/-- The binade (above the least) to which 'm * 2 ^ p' is rounded, 'p' counted from 2^-1074. -/
def bnd (m : Nat) (p : Int) : Nat := (p + m.log2 - 52).toNat
/-- The rung of the number nearest to 'm * 2 ^ p' (units of 2^-1074). -/
def RN (m : Nat) (p : Int) : Nat :=
  if m = 0 then 0 else min (bnd m p * ON + Toward.even.cut false (m * 2 ^ (p - bnd m p).toNat) ((bnd m p : Int) - p).toNat) INF

theorem cut_neg (s t : Bool) (n d : Nat) : Toward.even.cut s n d = Toward.even.cut t n d := by
  rw [cut_eq, cut_eq]

theorem nearest_eq (neg : Bool) (m : Nat) (p : Int) : double.nearest neg m p = (if neg then SG else 0) + RN m (p + 1074) := by
  unfold Format.nearest RN
  rw [lp, bn, ir]
  simp only
  have w : ∀ r, double.word neg r = (if neg then SG else 0) + r := by
    intro r; unfold Format.word; rw [sw]; cases neg <;> simp
  by_cases h : m = 0
  · rw [if_pos h, if_pos h, w]
  · rw [if_neg h, if_neg h, w]
    have e : max (p + (m.log2 : Int) - ((double.fractionBits : Nat) : Int)) (-1074) = (bnd m (p + 1074) : Int) - 1074 := by
      show max (p + (m.log2 : Int) - (52 : Int)) (-1074) = _
      unfold bnd; omega
    rw [e]
    have e1 : ((bnd m (p + 1074) : Int) - 1074 - (-1074)).toNat = bnd m (p + 1074) := by omega
    have e2 : (p - ((bnd m (p + 1074) : Int) - 1074)).toNat = (p + 1074 - bnd m (p + 1074)).toNat := by omega
    have e3 : (((bnd m (p + 1074) : Int) - 1074) - p).toNat = ((bnd m (p + 1074) : Int) - (p + 1074)).toNat := by omega
    rw [e1, e2, e3, Nat.shiftLeft_eq, cut_neg neg false]

theorem log2_mul_pow {m : Nat} (h : m ≠ 0) (k : Nat) : (m * 2 ^ k).log2 = m.log2 + k := by
  rw [Nat.log2_eq_iff (by have := Nat.two_pow_pos k; exact Nat.mul_ne_zero h (by omega))]
  have := (Nat.log2_eq_iff h).1 rfl
  rw [Nat.pow_add, show m.log2 + k + 1 = (m.log2 + 1) + k by omega, Nat.pow_add (a := 2) (m := m.log2 + 1)]
  exact ⟨Nat.mul_le_mul_right _ this.1, Nat.mul_lt_mul_of_pos_right this.2 (Nat.two_pow_pos k)⟩

/-- 'cut' hangs on the number alone. -/
theorem cut_scale (n d k : Nat) : Toward.even.cut false (n * 2 ^ k) (d + k) = Toward.even.cut false n d := by
  rw [cut_eq, cut_eq]
  have pk := Nat.two_pow_pos k
  have e1 : n * 2 ^ k / 2 ^ (d + k) = n / 2 ^ d := by rw [Nat.pow_add]; exact Nat.mul_div_mul_right _ _ pk
  have e2 : n * 2 ^ k % 2 ^ (d + k) = n % 2 ^ d * 2 ^ k := by rw [Nat.pow_add]; exact Nat.mul_mod_mul_right _ _ _
  rw [e1, e2, Nat.pow_add]
  have e3 : (2 ^ d * 2 ^ k < 2 * (n % 2 ^ d * 2 ^ k)) ↔ 2 ^ d < 2 * (n % 2 ^ d) := by
    rw [← Nat.mul_assoc]; exact Nat.mul_lt_mul_right pk
  have e4 : (2 ^ d * 2 ^ k = 2 * (n % 2 ^ d * 2 ^ k)) ↔ 2 ^ d = 2 * (n % 2 ^ d) := by
    rw [← Nat.mul_assoc]; exact Nat.mul_left_inj (by omega)
  simp only [e3, e4]

theorem RN_scale (m k : Nat) (p : Int) : RN (m * 2 ^ k) (p - k) = RN m p := by
  unfold RN
  by_cases h : m = 0
  · subst h; simp
  · have pk := Nat.two_pow_pos k
    rw [if_neg h, if_neg (Nat.mul_ne_zero h (by omega))]
    have eb : bnd (m * 2 ^ k) (p - k) = bnd m p := by unfold bnd; rw [log2_mul_pow h]; omega
    rw [eb]
    generalize bnd m p = L
    congr 2
    -- the digits that are shifted
    by_cases c1 : (L : Int) ≤ p - k
    · have a1 : ((L : Int) - (p - k)).toNat = 0 := by omega
      have a2 : ((L : Int) - p).toNat = 0 := by omega
      have a3 : (p - L).toNat = k + (p - k - L).toNat := by omega
      rw [a1, a2, a3, Nat.mul_assoc, ← Nat.pow_add]
    · by_cases c2 : (L : Int) ≤ p
      · have a0 : (p - (k : Int) - L).toNat = 0 := by omega
        have a2 : ((L : Int) - p).toNat = 0 := by omega
        have a3 : k = (p - L).toNat + ((L : Int) - (p - k)).toNat := by omega
        rw [a0, a2, Nat.pow_zero, Nat.mul_one]
        generalize ((L : Int) - (p - k)).toNat = u at *
        generalize (p - (L : Int)).toNat = v at *
        rw [a3, Nat.pow_add, ← Nat.mul_assoc]
        have := cut_scale (m * 2 ^ v) 0 u
        rw [Nat.zero_add] at this
        exact this
      · have a0 : (p - (k : Int) - L).toNat = 0 := by omega
        have a2 : (p - (L : Int)).toNat = 0 := by omega
        have a3 : ((L : Int) - (p - k)).toNat = ((L : Int) - p).toNat + k := by omega
        rw [a0, a2, a3, Nat.pow_zero, Nat.mul_one, Nat.mul_one]
        exact cut_scale _ _ _

theorem log2_V {r : Nat} (h : ON ≤ r) : (V r).log2 = 52 + sh r := by
  have hm : mg r ≠ 0 := by unfold mg; rw [if_neg (by omega)]; unfold ON; omega
  unfold V
  rw [log2_mul_pow hm]
  congr 1
  rw [Nat.log2_eq_iff hm]
  have := Nat.mod_lt r (show 0 < ON by decide)
  unfold mg; rw [if_neg (by omega)]
  simp only [ON] at *
  omega

theorem V_rung (r : Nat) : sh r * ON + mg r = r := by
  unfold sh mg
  by_cases h : r < ON
  · rw [if_pos h, Nat.div_eq_of_lt h]; simp
  · rw [if_neg h]
    have := Nat.div_add_mod r ON
    have h5 : 1 ≤ r / ON := by rw [Nat.le_div_iff_mul_le (by decide)]; omega
    obtain ⟨k, hk⟩ : ∃ k, r / ON = k + 1 := ⟨r / ON - 1, by omega⟩
    rw [hk] at this ⊢
    rw [Nat.mul_add] at this
    simp only [Nat.add_sub_cancel]
    rw [Nat.mul_comm k]
    omega

theorem bnd_V {r : Nat} (h0 : r ≠ 0) : bnd (V r) 0 = sh r := by
  unfold bnd
  by_cases h : ON ≤ r
  · rw [log2_V h]; omega
  · have h' : r < ON := by omega
    rw [V_small h']
    have : r.log2 < 52 := (Nat.log2_lt h0).2 (by simp only [ON] at h'; omega)
    have : sh r = 0 := by unfold sh; rw [Nat.div_eq_of_lt h']
    omega

/-- A number that is there is what it is rounded to. -/
theorem RN_V (r : Nat) (h : r ≤ INF) : RN (V r) 0 = r := by
  unfold RN
  by_cases h0 : r = 0
  · subst h0; rw [V_zero]; rfl
  · have hv : V r ≠ 0 := by have := V_lt (a := 0) (b := r) (by omega); omega
    rw [if_neg hv, bnd_V h0]
    have a1 : ((0 : Int) - (sh r : Int)).toNat = 0 := by omega
    have a2 : ((sh r : Int) - 0).toNat = sh r := by omega
    rw [a1, a2, Nat.pow_zero, Nat.mul_one]
    have : Toward.even.cut false (V r) (sh r) = mg r := by
      have := cut_scale (mg r) 0 (sh r)
      rw [Nat.zero_add] at this
      unfold V
      rw [this, cut_eq]
      simp
      omega
    rw [this, V_rung]
    omega

theorem RN_le (m : Nat) (p : Int) : RN m p ≤ INF := by
  unfold RN; split
  · decide
  · exact Nat.min_le_right _ _

/-! sums and products -/
def fin (b : Nat) : Prop := b < 18446744073709551616 ∧ b % SG < INF

theorem read_fin {b : Nat} (h : fin b) : double.read b = .number (decide (SG ≤ b)) (mg (b % SG)) (-1074 + (sh (b % SG) : Nat)) := by
  rw [read_eq, if_pos h.2, sgn_eq h.1]

/-- The word of a sign and a rung. -/
def wd (neg : Bool) (r : Nat) : Nat := (if neg then SG else 0) + r

theorem wd_rung (neg : Bool) {r : Nat} (h : r < SG) : wd neg r % SG = r := by unfold wd; cases neg <;> simp <;> omega
theorem wd_neg (neg : Bool) {r : Nat} (h : r < SG) : decide (SG ≤ wd neg r) = neg := by unfold wd; cases neg <;> simp <;> omega
theorem wd_lt (neg : Bool) {r : Nat} (h : r < SG) : wd neg r < 18446744073709551616 := by unfold wd; cases neg <;> simp [SG] at * <;> omega
theorem ky_wd (neg : Bool) {r : Nat} (h : r < SG) : ky (wd neg r) = sg neg (V r) := by unfold ky; rw [wd_rung neg h, wd_neg neg h]
theorem fin_wd (neg : Bool) {r : Nat} (h : r < INF) : fin (wd neg r) := by
  have : r < SG := Nat.lt_trans h (by decide)
  exact ⟨wd_lt neg this, by rw [wd_rung neg this]; exact h⟩

theorem write_number (neg : Bool) (m : Nat) (p : Int) : double.write (.number neg m p) = wd neg (RN m (p + 1074)) := nearest_eq neg m p

theorem sg_scaled (s : Bool) (r c : Nat) (h : c ≤ sh r) : sg s (mg r * 2 ^ (sh r - c)) * ((2 ^ c : Nat) : Int) = sg s (V r) := by
  rw [← sg_mul]; congr 1
  unfold V; rw [Nat.mul_assoc, ← Nat.pow_add]; congr 2; omega

/-- The exact sum. -/
theorem add_fin {x y : Nat} (hx : fin x) (hy : fin y) :
    double.add x y = some (wd (if ky x + ky y = 0 then decide (SG ≤ x) && decide (SG ≤ y) else decide (ky x + ky y < 0)) (RN (ky x + ky y).natAbs 0)) := by
  unfold Format.add
  rw [read_fin hx, read_fin hy]
  simp only [Datum.sum, Option.map_some]
  rw [signed_eq, signed_eq, write_number]
  unfold ky
  generalize x % SG = r
  generalize y % SG = q
  generalize decide (SG ≤ x) = s
  generalize decide (SG ≤ y) = t
  have hc : min (-1074 + (sh r : Int)) (-1074 + (sh q : Int)) = -1074 + (min (sh r) (sh q) : Nat) := by omega
  rw [hc]
  generalize hcc : min (sh r) (sh q) = c
  have e1 : (-1074 + (sh r : Int) - (-1074 + (c : Int))).toNat = sh r - c := by omega
  have e2 : (-1074 + (sh q : Int) - (-1074 + (c : Int))).toNat = sh q - c := by omega
  rw [e1, e2]
  have g1 := sg_scaled s r c (by omega)
  have g2 := sg_scaled t q c (by omega)
  generalize sg s (mg r * 2 ^ (sh r - c)) = A at *
  generalize sg t (mg q * 2 ^ (sh q - c)) = B at *
  have g : sg s (V r) + sg t (V q) = (A + B) * ((2 ^ c : Nat) : Int) := by rw [← g1, ← g2, Int.add_mul]
  rw [g]
  have pc : (0 : Int) < ((2 ^ c : Nat) : Int) := by exact_mod_cast Nat.two_pow_pos c
  have z : ((A + B) * ((2 ^ c : Nat) : Int) = 0) ↔ (A + B = 0) := by
    constructor
    · intro h; rcases Int.mul_eq_zero.1 h with h | h
      · exact h
      · omega
    · intro h; rw [h, Int.zero_mul]
  have n : ((A + B) * ((2 ^ c : Nat) : Int) < 0) ↔ (A + B < 0) := by
    constructor
    · intro h; by_cases h2 : A + B < 0
      · exact h2
      · have := Int.mul_nonneg (show 0 ≤ A + B by omega) (Int.le_of_lt pc); omega
    · intro h; exact Int.mul_neg_of_neg_of_pos h pc
  simp only [z, n]
  rw [Int.natAbs_mul, Int.natAbs_natCast]
  have e3 : (-1074 + (c : Int) + 1074) = c := by omega
  rw [e3]
  have := RN_scale (A + B).natAbs c c
  rw [Int.sub_self] at this
  rw [this]

/-- A word with its sign turned. -/
def ng (b : Nat) : Nat := if SG ≤ b then b - SG else b + SG

theorem ng_rung {b : Nat} (h : b < 18446744073709551616) : ng b % SG = b % SG := by unfold ng; simp only [SG]; split <;> omega
theorem ng_lt {b : Nat} (h : b < 18446744073709551616) : ng b < 18446744073709551616 := by unfold ng; simp only [SG]; split <;> omega
theorem ng_neg {b : Nat} (h : b < 18446744073709551616) : decide (SG ≤ ng b) = !decide (SG ≤ b) := by
  unfold ng; simp only [SG]
  by_cases h1 : 9223372036854775808 ≤ b
  · simp [h1]; omega
  · simp [h1]
theorem ng_ng {b : Nat} (h : b < 18446744073709551616) : ng (ng b) = b := by
  unfold ng; simp only [SG]
  by_cases h1 : 9223372036854775808 ≤ b
  · rw [if_pos h1, if_neg (by omega)]; omega
  · rw [if_neg h1, if_pos (by omega)]; omega
theorem ky_ng {b : Nat} (h : b < 18446744073709551616) : ky (ng b) = - ky b := by
  unfold ky; rw [ng_rung h, ng_neg h]; unfold sg; cases decide (SG ≤ b) <;> simp
theorem fin_ng {b : Nat} (h : fin b) : fin (ng b) := ⟨ng_lt h.1, by rw [ng_rung h.1]; exact h.2⟩

theorem read_ng {b : Nat} (h : b < 18446744073709551616) : double.read (ng b) = (double.read b).opposite := by
  rw [read_eq, read_eq, ng_rung h, sgn_eq h, sgn_eq (ng_lt h), ng_neg h]
  split
  · rfl
  · split <;> rfl

theorem sub_eq {x y : Nat} (hy : y < 18446744073709551616) : double.sub x y = double.add x (ng y) := by
  unfold Format.sub Format.add; rw [read_ng hy]

/-- The exact product. -/
theorem mul_fin {x y : Nat} (hx : fin x) (hy : fin y) :
    double.mul x y = some (wd (decide (SG ≤ x) ^^ decide (SG ≤ y)) (RN ((ky x).natAbs * (ky y).natAbs) (-1074))) := by
  unfold Format.mul
  rw [read_fin hx, read_fin hy]
  simp only [Datum.product, Option.map_some]
  rw [write_number]
  have a1 : ∀ s n, (sg s n).natAbs = n := by intro s n; unfold sg; cases s <;> simp
  unfold ky
  rw [a1, a1]
  unfold V
  congr 2
  rw [show mg (x % SG) * 2 ^ sh (x % SG) * (mg (y % SG) * 2 ^ sh (y % SG)) = mg (x % SG) * mg (y % SG) * 2 ^ (sh (x % SG) + sh (y % SG)) by
    rw [Nat.pow_add]; simp [Nat.mul_assoc, Nat.mul_left_comm]]
  have := RN_scale (mg (x % SG) * mg (y % SG)) (sh (x % SG) + sh (y % SG)) (-1074 + (sh (x % SG) : Int) + (-1074 + (sh (y % SG) : Int)) + 1074)
  rw [← this]
  congr 1
  omega

theorem V_mk {s M : Nat} (h1 : ON ≤ M) (h2 : M < 2 * ON) : V (s * ON + M) = M * 2 ^ s := by
  have e1 : (s * ON + M) / ON = s + 1 := by
    have : s * ON + M = ON * (s + 1) + (M - ON) := by rw [Nat.mul_add, Nat.mul_comm]; omega
    rw [this, Nat.mul_add_div (by decide), Nat.div_eq_of_lt (by omega), Nat.add_zero]
  have e2 : (s * ON + M) % ON = M - ON := by
    have : s * ON + M = ON * (s + 1) + (M - ON) := by rw [Nat.mul_add, Nat.mul_comm]; omega
    rw [this, Nat.mul_add_mod]; exact Nat.mod_eq_of_lt (by omega)
  have hb : ¬ (s * ON + M < ON) := by
    have : 0 ≤ s * ON := Nat.zero_le _
    omega
  unfold V mg sh
  rw [if_neg hb, e1, e2, Nat.add_sub_cancel]
  have e3 : ON + (M - ON) = M := by omega
  rw [e3]

theorem pw (a b c x : Nat) (hx : x = 2 ^ a) (h : a + b = c) : x * 2 ^ b = 2 ^ c := by rw [hx, ← Nat.pow_add, h]

/-- Beyond the greatest number. -/
def TOP : Nat := 2098
theorem V_INF : V INF = 2 ^ TOP := by
  have h := @V_mk 2046 ON (Nat.le_refl _) (by decide)
  have e : 2046 * ON + ON = INF := by decide
  rw [e] at h
  exact h.trans (pw 52 2046 TOP ON (by decide) (by decide))

/-- What has at most 53 digits is there. -/
theorem V_has (n k : Nat) (hn : n < 9007199254740992) (hS : n * 2 ^ k < 2 ^ TOP) : ∃ r, r < INF ∧ V r = n * 2 ^ k := by
  suffices h : ∃ r, V r = n * 2 ^ k by
    obtain ⟨r, hr⟩ := h
    refine ⟨r, ?_, hr⟩
    exact V_lt_iff.1 (by rw [hr, V_INF]; exact hS)
  by_cases h0 : n = 0
  · exact ⟨0, by rw [h0, Nat.zero_mul, V_zero]⟩
  have l : n.log2 < 53 := (Nat.log2_lt h0).2 (by omega)
  have hl := (Nat.log2_eq_iff h0).1 rfl
  by_cases c : 52 - n.log2 ≤ k
  · refine ⟨(k - (52 - n.log2)) * ON + n * 2 ^ (52 - n.log2), ?_⟩
    have b1 : ON ≤ n * 2 ^ (52 - n.log2) := by
      have := Nat.mul_le_mul_right (2 ^ (52 - n.log2)) hl.1
      rw [← Nat.pow_add, show n.log2 + (52 - n.log2) = 52 by omega] at this
      exact this
    have b2 : n * 2 ^ (52 - n.log2) < 2 * ON := by
      have := Nat.mul_lt_mul_of_pos_right hl.2 (Nat.two_pow_pos (52 - n.log2))
      rw [← Nat.pow_add, show n.log2 + 1 + (52 - n.log2) = 53 by omega] at this
      exact this
    rw [V_mk b1 b2, Nat.mul_assoc, ← Nat.pow_add]
    congr 2; omega
  · refine ⟨n * 2 ^ k, V_small ?_⟩
    have a1 := Nat.mul_lt_mul_of_pos_right hl.2 (Nat.two_pow_pos k)
    rw [← Nat.pow_add] at a1
    have a2 : 2 ^ (n.log2 + 1 + k) ≤ 2 ^ 52 := Nat.pow_le_pow_right (by decide) (by omega)
    exact Nat.lt_of_lt_of_le a1 a2

theorem RN_exact (n k : Nat) (hn : n < 9007199254740992) (hS : n * 2 ^ k < 2 ^ TOP) : RN (n * 2 ^ k) 0 < INF ∧ V (RN (n * 2 ^ k) 0) = n * 2 ^ k := by
  obtain ⟨r, h1, h2⟩ := V_has n k hn hS
  rw [← h2, RN_V r (by omega)]
  exact ⟨h1, rfl⟩

end Go.Proofs.YtnghppgpdeghfaaGreatDoor.Fl
