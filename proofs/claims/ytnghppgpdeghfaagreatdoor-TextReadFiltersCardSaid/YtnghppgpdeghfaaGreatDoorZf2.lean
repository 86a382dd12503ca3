/- Plain definitions and laws of layer 1 (part): what each function computes, on the bits of a float; no Go in sight. Plain laws of layer 1: rounding a whole number times a power of two; no Go in sight. -/
import Derived.Test.YtnghppgpdeghfaaGreatDoorZf1
import Derived.Lib.Hide
import Derived.Lib.BitFns
namespace Go.Proofs.YtnghppgpdeghfaaGreatDoor.Pt
open Go.Proofs.YtnghppgpdeghfaaGreatDoor.Fl Go.Lib Go.RowKit

theorem dt {p : Prop} [Decidable p] (h : p) : decide p = true := by simp [h]
theorem df {p : Prop} [Decidable p] (h : ¬ p) : decide p = false := by simp [h]
theorem bt {a b : Int} (h : a = b) : (a == b) = true := by simp [h]
theorem bf {a b : Int} (h : a ≠ b) : (a == b) = false := by simp [h]

/-- The class of a float. -/
def cls (b : Nat) : Nat := if b % SG = 0 then 0 else if b % SG < ON then 1 else if b % SG < INF then 2 else if b % SG = INF then 3 else 4
def sgb (b : Nat) : Bool := decide (SG ≤ b)

/-- Split: a number's significand, power. -/
def spm (b : Nat) : Nat := if b % SG < ON then b % SG else b % ON + ON
def spe (b : Nat) : Int := if b % SG < ON then -1074 else (b % SG / ON : Nat) - 1075

/-- The place in the order, modulo 2^64 (and the float at a place). -/
def plc (b : Nat) : Nat := if SG ≤ b then 27670116110564327423 - b else b
/-- The rank. -/
def rnk (b : Nat) : Int := if nan b then 9223372036854775807 else if SG ≤ b then 9223372036854775807 - b else b
def ordr (x y : Int) : Int := if x < y then -1 else if y < x then 1 else 0
/-- The reference's index, and the float there. -/
def idx (b : Nat) : Nat := if nan b then 18437736874454810627 else if SG ≤ b then INF - b % SG else INF + 1 + b
def ati (i : Nat) : Nat := if i ≤ INF then INF - i + SG else i - INF - 1
/-- The nought of its sign. -/
def sgw (b : Nat) : Nat := if SG ≤ b then SG else 0
def flu (b : Nat) : Nat := if cls b = 1 then sgw b else b

theorem plc_lt {b : Nat} (h : b < 18446744073709551616) : plc b < 18446744073709551616 := by unfold plc; simp only [SG]; split <;> omega
theorem plc_plc {b : Nat} (h : b < 18446744073709551616) : plc (plc b) = b := by
  unfold plc; simp only [SG]
  by_cases h1 : 9223372036854775808 ≤ b
  · rw [if_pos h1, if_pos (by omega)]; omega
  · rw [if_neg h1, if_neg h1]
theorem idx_lt {b : Nat} (h : b < 18446744073709551616) : idx b ≤ 18437736874454810627 := by
  unfold idx nan; simp only [SG, INF, decide_eq_true_eq]
  split
  · omega
  · split <;> omega

theorem cls_nan {b : Nat} : cls b = 4 ↔ nan b = true := by
  unfold cls nan; simp only [SG, ON, INF, decide_eq_true_eq]
  repeat' (split; · omega)
  omega

theorem ne_self {b : Nat} (hb : b < 18446744073709551616) : (Go.FloatKind.f64.format.order b b != some Ordering.eq) = nan b := by
  show (Ieee.double.order b b != some Ordering.eq) = nan b
  rw [order_eq hb hb]
  cases h : nan b
  · simp
  · simp

theorem place_ways (b : Nat) (hb : b < 18446744073709551616) :
    (decide ((9223372036854775808 : Int) ≤ b) = true ∧ Go.IntKind.u64.wrap (9223372036854775807 - (b : Int)) = (plc b : Nat) ∧ Hid (SG ≤ b)) ∨
    (decide ((9223372036854775808 : Int) ≤ b) = false ∧ Hid (((b : Nat) : Int) = (plc b : Nat) ∧ ¬ SG ≤ b)) := by
  by_cases h1 : 9223372036854775808 ≤ b
  · refine .inl ⟨dt (by omega), ?_, hid h1⟩
    have : plc b = 27670116110564327423 - b := by unfold plc; rw [if_pos h1]
    rw [this]
    simp only [Go.IntKind.wrap, Go.IntKind.bits, Go.IntKind.signed]; simp; omega
  · exact .inr ⟨df (by omega), hid ⟨by unfold plc; rw [if_neg h1], h1⟩⟩

theorem rank_ways (b : Nat) (hb : b < 18446744073709551616) :
    ((Go.FloatKind.f64.format.order b b != some Ordering.eq) = true ∧ Hid ((9223372036854775807 : Int) = rnk b)) ∨
    ((Go.FloatKind.f64.format.order b b != some Ordering.eq) = false ∧ Go.IntKind.i64.wrap ((plc b : Nat) : Int) = rnk b) := by
  rw [ne_self hb]
  cases h : nan b
  · refine .inr ⟨rfl, ?_⟩
    have e1 : rnk b = if 9223372036854775808 ≤ b then 9223372036854775807 - (b : Int) else b := by unfold rnk; rw [h, if_neg (by decide)]
    have e2 : plc b = if 9223372036854775808 ≤ b then 27670116110564327423 - b else b := rfl
    rw [e1, e2]
    simp only [Go.IntKind.wrap, Go.IntKind.bits, Go.IntKind.signed]; simp
    by_cases h1 : 9223372036854775808 ≤ b
    · rw [if_pos h1, if_pos h1]; split <;> omega
    · rw [if_neg h1, if_neg h1]; split <;> omega
  · exact .inl ⟨rfl, hid (by unfold rnk; rw [if_pos h])⟩

theorem rnk_bd {b : Nat} (hb : b < 18446744073709551616) : -9223372036854775808 ≤ rnk b ∧ rnk b ≤ 9223372036854775807 := by
  unfold rnk; split
  · omega
  · simp only [SG]; split <;> omega

theorem order_ways (x y : Int) :
    (x < y ∧ decide (x < y) = true ∧ Hid (-1 = ordr x y)) ∨ (y < x ∧ decide (x < y) = false ∧ decide (y < x) = true ∧ Hid (1 = ordr x y)) ∨ (decide (x < y) = false ∧ decide (y < x) = false ∧ Hid (0 = ordr x y)) := by
  rcases Int.lt_trichotomy x y with h | h | h
  · exact .inl ⟨h, dt h, hid (by unfold ordr; rw [if_pos h])⟩
  · exact .inr (.inr ⟨df (by omega), df (by omega), hid (by unfold ordr; rw [if_neg (by omega), if_neg (by omega)])⟩)
  · exact .inr (.inl ⟨h, df (by omega), dt h, hid (by unfold ordr; rw [if_neg (by omega), if_pos h])⟩)

theorem cls_iff {b : Nat} {n : Int} (h : (b % 9223372036854775808 = 0 ∧ n = 0) ∨ (0 < b % 9223372036854775808 ∧ b % 9223372036854775808 < 4503599627370496 ∧ n = 1) ∨ (4503599627370496 ≤ b % 9223372036854775808 ∧ b % 9223372036854775808 < 9218868437227405312 ∧ n = 2) ∨ (b % 9223372036854775808 = 9218868437227405312 ∧ n = 3) ∨ (9218868437227405312 < b % 9223372036854775808 ∧ n = 4)) : n = ((cls b : Nat) : Int) := by
  unfold cls
  simp only [SG, ON, INF]
  repeat' (split; · omega)
  omega

/-- The names of a word's parts. -/
theorem names (b : Nat) (hb : b < 18446744073709551616) : ∃ c f p : Nat,
    (b : Int).tmod 9223372036854775808 = c ∧ (b : Int).tmod 4503599627370496 = f ∧ (c : Int) / 4503599627370496 = p ∧ (c : Int).tmod 4503599627370496 = f ∧ c < 9223372036854775808 ∧ f < 4503599627370496 ∧ p < 2048 ∧
    Hid (c = b % 9223372036854775808 ∧ f = b % 4503599627370496 ∧ p = c / 4503599627370496) := by
  refine ⟨b % 9223372036854775808, b % 4503599627370496, b % 9223372036854775808 / 4503599627370496, ?_, ?_, ?_, ?_, ?_, ?_, ?_, hid ⟨rfl, rfl, rfl⟩⟩
  · rw [Int.tmod_eq_emod_of_nonneg (by omega)]; omega
  · rw [Int.tmod_eq_emod_of_nonneg (by omega)]; omega
  · omega
  · rw [Int.tmod_eq_emod_of_nonneg (by omega)]; omega
  all_goals omega

theorem of_ways {b c p : Nat} (hc : c = b % 9223372036854775808) (hp : p = c / 4503599627370496) :
    (((c : Int) == 0) = true ∧ Hid ((0 : Int) = (cls b : Nat))) ∨
    (((c : Int) == 0) = false ∧ ((p : Int) == 0) = true ∧ Hid ((1 : Int) = (cls b : Nat))) ∨
    (((c : Int) == 0) = false ∧ ((p : Int) == 0) = false ∧ ((c : Int) == 9218868437227405312) = true ∧ Hid ((3 : Int) = (cls b : Nat))) ∨
    (((c : Int) == 0) = false ∧ ((p : Int) == 0) = false ∧ ((c : Int) == 9218868437227405312) = false ∧ ((p : Int) == 2047) = true ∧ Hid ((4 : Int) = (cls b : Nat))) ∨
    (((c : Int) == 0) = false ∧ ((p : Int) == 0) = false ∧ ((c : Int) == 9218868437227405312) = false ∧ ((p : Int) == 2047) = false ∧ Hid ((2 : Int) = (cls b : Nat))) := by
  have h : c = 0 ∨ (0 < c ∧ c < 4503599627370496) ∨ (4503599627370496 ≤ c ∧ c < 9218868437227405312) ∨ c = 9218868437227405312 ∨ 9218868437227405312 < c := by omega
  rcases h with h | h | h | h | h
  · exact .inl ⟨bt (by omega), hid (cls_iff (by omega))⟩
  · exact .inr (.inl ⟨bf (by omega), bt (by omega), hid (cls_iff (by omega))⟩)
  · exact .inr (.inr (.inr (.inr ⟨bf (by omega), bf (by omega), bf (by omega), bf (by omega), hid (cls_iff (by omega))⟩)))
  · exact .inr (.inr (.inl ⟨bf (by omega), bf (by omega), bt (by omega), hid (cls_iff (by omega))⟩))
  · exact .inr (.inr (.inr (.inl ⟨bf (by omega), bf (by omega), bf (by omega), bt (by omega), hid (cls_iff (by omega))⟩)))

theorem class_ways {b c : Nat} (hc : c = b % 9223372036854775808) :
    (((c : Int) == 0) = true ∧ Hid ((0 : Int) = (cls b : Nat))) ∨
    (((c : Int) == 0) = false ∧ decide ((c : Int) < 4503599627370496) = true ∧ Hid ((1 : Int) = (cls b : Nat))) ∨
    (((c : Int) == 0) = false ∧ decide ((c : Int) < 4503599627370496) = false ∧ decide ((c : Int) < 9218868437227405312) = true ∧ Hid ((2 : Int) = (cls b : Nat))) ∨
    (((c : Int) == 0) = false ∧ decide ((c : Int) < 4503599627370496) = false ∧ decide ((c : Int) < 9218868437227405312) = false ∧ ((c : Int) == 9218868437227405312) = true ∧ Hid ((3 : Int) = (cls b : Nat))) ∨
    (((c : Int) == 0) = false ∧ decide ((c : Int) < 4503599627370496) = false ∧ decide ((c : Int) < 9218868437227405312) = false ∧ ((c : Int) == 9218868437227405312) = false ∧ Hid ((4 : Int) = (cls b : Nat))) := by
  have h : c = 0 ∨ (0 < c ∧ c < 4503599627370496) ∨ (4503599627370496 ≤ c ∧ c < 9218868437227405312) ∨ c = 9218868437227405312 ∨ 9218868437227405312 < c := by omega
  rcases h with h | h | h | h | h
  · exact .inl ⟨bt (by omega), hid (cls_iff (by omega))⟩
  · exact .inr (.inl ⟨bf (by omega), dt (by omega), hid (cls_iff (by omega))⟩)
  · exact .inr (.inr (.inl ⟨bf (by omega), df (by omega), dt (by omega), hid (cls_iff (by omega))⟩))
  · exact .inr (.inr (.inr (.inl ⟨bf (by omega), df (by omega), df (by omega), bt (by omega), hid (cls_iff (by omega))⟩)))
  · exact .inr (.inr (.inr (.inr ⟨bf (by omega), df (by omega), df (by omega), bf (by omega), hid (cls_iff (by omega))⟩)))

/-- Split's ways: no number; a subnormal one or nought; a normal one. -/
theorem split_ways {b c f p : Nat} (hc : c = b % 9223372036854775808) (hf : f = b % 4503599627370496) (hp : p = c / 4503599627370496) :
    (decide ((3 : Int) ≤ (cls b : Nat)) = true ∧ Hid (3 ≤ cls b)) ∨
    (decide ((3 : Int) ≤ (cls b : Nat)) = false ∧ decide ((0 : Int) < (p : Int)) = false ∧ ((p : Int) == 0) = true ∧ p ≤ 0 ∧ Hid (cls b < 3 ∧ (f : Int) = (spm b : Nat) ∧ (p : Int) + -1074 = spe b ∧ (-1074) = spe b)) ∨
    (decide ((3 : Int) ≤ (cls b : Nat)) = false ∧ decide ((0 : Int) < (p : Int)) = true ∧ ((p : Int) == 0) = false ∧ 0 < p ∧ Hid (cls b < 3 ∧ (f : Int) + 4503599627370496 = (spm b : Nat) ∧ (p : Int) - 1 + -1074 = spe b ∧ (p : Int) - 1075 = spe b)) := by
  have k : cls b < 3 ↔ b % 9223372036854775808 < 9218868437227405312 := by
    unfold cls; simp only [SG, ON, INF]; repeat' (split; · omega)
    omega
  by_cases h1 : 9218868437227405312 ≤ c
  · exact .inl ⟨dt (by omega), hid (by omega)⟩
  · by_cases h2 : c < 4503599627370496
    · refine .inr (.inl ⟨df (by omega), df (by omega), bt (by omega), by omega, hid ⟨by omega, ?_, ?_, ?_⟩⟩)
      · unfold spm; simp only [SG, ON]; rw [if_pos (by omega)]; omega
      · unfold spe; simp only [SG, ON]; rw [if_pos (by omega)]; omega
      · unfold spe; simp only [SG, ON]; rw [if_pos (by omega)]
    · refine .inr (.inr ⟨df (by omega), dt (by omega), bf (by omega), by omega, hid ⟨by omega, ?_, ?_, ?_⟩⟩)
      · unfold spm; simp only [SG, ON]; rw [if_neg (by omega)]; omega
      · unfold spe; simp only [SG, ON]; rw [if_neg (by omega)]; omega
      · unfold spe; simp only [SG, ON]; rw [if_neg (by omega)]; omega


theorem index_ways (b : Nat) (_hb : b < 18446744073709551616) (c : Nat) (hc : c = b % 9223372036854775808) :
    ((((cls b : Nat) : Int) == 4) = true ∧ Hid ((18437736874454810627 : Int) = (idx b : Nat))) ∨
    ((((cls b : Nat) : Int) == 4) = false ∧ decide ((9223372036854775808 : Int) ≤ b) = true ∧ c ≤ 9218868437227405312 ∧ Hid ((9218868437227405312 : Int) - c = (idx b : Nat))) ∨
    ((((cls b : Nat) : Int) == 4) = false ∧ decide ((9223372036854775808 : Int) ≤ b) = false ∧ b ≤ 9218868437227405312 ∧ Hid ((9218868437227405313 : Int) + b = (idx b : Nat))) := by
  have k := cls_nan (b := b)
  cases h : nan b
  · have k1 : cls b ≠ 4 := fun e => by rw [k.1 e] at h; cases h
    have h2 : b % 9223372036854775808 ≤ 9218868437227405312 := by unfold nan at h; simp [INF, SG] at h; omega
    by_cases h1 : 9223372036854775808 ≤ b
    · refine .inr (.inl ⟨bf (by omega), dt (by omega), by omega, hid ?_⟩)
      unfold idx; rw [h, if_neg (by decide)]; simp only [SG, INF]; rw [if_pos h1]; omega
    · refine .inr (.inr ⟨bf (by omega), df (by omega), by omega, hid ?_⟩)
      unfold idx; rw [h, if_neg (by decide)]; simp only [SG, INF]; rw [if_neg h1]; omega
  · exact .inl ⟨bt (by have := k.2 h; omega), hid (by unfold idx; rw [if_pos h]; rfl)⟩

theorem refat_ways (i : Nat) (_h : i ≤ 18437736874454810625) :
    (decide ((i : Int) ≤ 9218868437227405312) = true ∧ i ≤ 9218868437227405312 ∧ Hid (9218868437227405312 - i + 9223372036854775808 = ati i)) ∨
    (decide ((i : Int) ≤ 9218868437227405312) = false ∧ 9218868437227405313 ≤ i ∧ Hid (i - 9218868437227405312 - 1 = ati i)) := by
  by_cases h1 : i ≤ 9218868437227405312
  · exact .inl ⟨dt (by omega), h1, hid (by unfold ati; simp only [INF, SG]; rw [if_pos h1])⟩
  · exact .inr ⟨df (by omega), by omega, hid (by unfold ati; simp only [INF, SG]; rw [if_neg h1])⟩


theorem order_waysN (x y : Nat) :
    (x < y ∧ decide (x < y) = true ∧ Hid (-1 = ordr x y)) ∨ (y < x ∧ decide (x < y) = false ∧ decide (y < x) = true ∧ Hid (1 = ordr x y)) ∨ (decide (x < y) = false ∧ decide (y < x) = false ∧ Hid (0 = ordr x y)) := by
  rcases Nat.lt_trichotomy x y with h | h | h
  · exact .inl ⟨h, dt h, hid (by unfold ordr; rw [if_pos (by omega)])⟩
  · exact .inr (.inr ⟨df (by omega), df (by omega), hid (by unfold ordr; rw [if_neg (by omega), if_neg (by omega)])⟩)
  · exact .inr (.inl ⟨h, df (by omega), dt h, hid (by unfold ordr; rw [if_neg (by omega), if_pos (by omega)])⟩)

/-- Flush's ways. -/
theorem flush_ways (b : Nat) :
    ((((cls b : Nat) : Int) == 1) = true ∧ Hid (flu b = sgw b)) ∨ ((((cls b : Nat) : Int) == 1) = false ∧ Hid (b = flu b)) := by
  by_cases h : cls b = 1
  · exact .inl ⟨bt (by omega), hid (by unfold flu; rw [if_pos h])⟩
  · exact .inr ⟨bf (by omega), hid (by unfold flu; rw [if_neg h])⟩

/-- Copysign. -/
def cps (x y : Nat) : Nat := x % SG + y / SG * SG
theorem cps_lt {x y : Nat} (hy : y < 18446744073709551616) : cps x y < 18446744073709551616 := by unfold cps; simp only [SG]; omega

/-- Is it the infinity of this sign? -/
theorem inf_gt {b : Nat} (hb : b < 18446744073709551616) : (Go.FloatKind.f64.format.order b 9218868437227405311 == some Ordering.gt) = decide (b = INF) := by
  show (Ieee.double.order b 9218868437227405311 == some Ordering.gt) = decide (b = INF)
  rw [order_eq hb (by decide)]
  by_cases h : nan b = true
  · have : b ≠ INF := by intro e; rw [e] at h; revert h; decide
    simp [h, this]
  · have h' : nan b = false := by simpa using h
    have e1 : nan 9218868437227405311 = false := by decide
    have h2 : b % 9223372036854775808 ≤ 9218868437227405312 := by unfold nan at h'; simp [INF, SG] at h'; omega
    rw [h', e1]
    have e2 : rk 9218868437227405311 = 9218868437227405311 := by decide
    rw [e2]
    simp only [Bool.or_self, Bool.false_eq_true, if_false]
    rw [Bool.eq_iff_iff]
    simp only [decide_eq_true_eq, beq_iff_eq, Option.some.injEq]
    have e3 : rk b = if 9223372036854775808 ≤ b then -((b - 9223372036854775808 : Nat) : Int) else b := rfl
    rw [cmp_int]
    constructor
    · intro h3
      split at h3
      · cases h3
      · split at h3
        · cases h3
        · rw [e3] at *; simp only [INF]; split at * <;> omega
    · intro h3
      rw [e3, h3, if_neg (by decide)]; decide


/-- The laws' own 'bits': one pattern, or two NaNs. -/
def eqv (a b : Nat) : Bool := decide (a = b) || (nan a && nan b)
theorem eqv_refl (a : Nat) : eqv a a = true := by simp [eqv]
theorem eqv_nan {a b : Nat} (h1 : nan a = true) (h2 : nan b = true) : eqv a b = true := by simp [eqv, h1, h2]

theorem eqv_ways (a b : Nat) (ha : a < 18446744073709551616) (hb : b < 18446744073709551616) :
    (((a : Int) == (b : Int)) = true ∧ Hid (true = eqv a b)) ∨
    (((a : Int) == (b : Int)) = false ∧ (Go.FloatKind.f64.format.order a a != some Ordering.eq) = false ∧ Hid (false = eqv a b)) ∨
    (((a : Int) == (b : Int)) = false ∧ (Go.FloatKind.f64.format.order a a != some Ordering.eq) = true ∧ (Go.FloatKind.f64.format.order b b != some Ordering.eq) = nan b ∧ Hid (nan b = eqv a b)) := by
  by_cases h : a = b
  · exact .inl ⟨bt (by omega), hid (by simp [eqv, h])⟩
  · cases h1 : nan a
    · exact .inr (.inl ⟨bf (by omega), by rw [ne_self ha, h1], hid (by simp [eqv, h, h1])⟩)
    · exact .inr (.inr ⟨bf (by omega), by rw [ne_self ha, h1], ne_self hb, hid (by simp [eqv, h, h1])⟩)

/-- Next and Prev. -/
def nxt (b : Nat) : Nat := if nan b || decide (b = INF) then b else plc ((plc b + 1) % 18446744073709551616)
def prv (b : Nat) : Nat := if nan b || decide (ng b = INF) then b else plc ((plc b + 18446744073709551615) % 18446744073709551616)
def dnx (b : Nat) : Nat := if nan b then b else ati (min (idx b + 1) 18437736874454810625)
def dpr (b : Nat) : Nat := if nan b || decide (idx b = 0) then b else ati (idx b - 1)

theorem next_ways (b : Nat) (hb : b < 18446744073709551616) :
    ((Go.FloatKind.f64.format.order b b != some Ordering.eq) = true ∧ Hid (b = nxt b)) ∨
    ((Go.FloatKind.f64.format.order b b != some Ordering.eq) = false ∧ decide (b = INF) = true ∧ Hid (b = nxt b)) ∨
    (∃ q : Nat, (Go.FloatKind.f64.format.order b b != some Ordering.eq) = false ∧ decide (b = INF) = false ∧ Go.IntKind.u64.wrap (((plc b : Nat) : Int) + 1) = q ∧ q < 18446744073709551616 ∧ Hid (plc q = nxt b)) := by
  rw [ne_self hb]
  cases h : nan b
  · by_cases h1 : b = INF
    · exact .inr (.inl ⟨rfl, dt h1, hid (by unfold nxt; rw [h, dt h1]; exact (if_pos rfl).symm)⟩)
    · refine .inr (.inr ⟨(plc b + 1) % 18446744073709551616, rfl, df h1, ?_, by omega, hid (by unfold nxt; rw [h, df h1]; exact (if_neg (by decide)).symm)⟩)
      simp only [Go.IntKind.wrap, Go.IntKind.bits, Go.IntKind.signed]; simp
  · exact .inl ⟨rfl, hid (by unfold nxt; rw [h]; exact (if_pos rfl).symm)⟩

theorem prev_ways (b : Nat) (hb : b < 18446744073709551616) :
    ((Go.FloatKind.f64.format.order b b != some Ordering.eq) = true ∧ Hid (b = prv b)) ∨
    ((Go.FloatKind.f64.format.order b b != some Ordering.eq) = false ∧ decide (ng b = INF) = true ∧ Hid (b = prv b)) ∨
    (∃ q : Nat, (Go.FloatKind.f64.format.order b b != some Ordering.eq) = false ∧ decide (ng b = INF) = false ∧ Go.IntKind.u64.wrap (((plc b : Nat) : Int) - 1) = q ∧ q < 18446744073709551616 ∧ Hid (plc q = prv b)) := by
  rw [ne_self hb]
  cases h : nan b
  · by_cases h1 : ng b = INF
    · exact .inr (.inl ⟨rfl, dt h1, hid (by unfold prv; rw [h, dt h1]; exact (if_pos rfl).symm)⟩)
    · refine .inr (.inr ⟨(plc b + 18446744073709551615) % 18446744073709551616, rfl, df h1, ?_, by omega, hid (by unfold prv; rw [h, df h1]; exact (if_neg (by decide)).symm)⟩)
      have := plc_lt hb
      simp only [Go.IntKind.wrap, Go.IntKind.bits, Go.IntKind.signed]; simp; omega
  · exact .inl ⟨rfl, hid (by unfold prv; rw [h]; exact (if_pos rfl).symm)⟩

theorem dnx_ways (b : Nat) (hb : b < 18446744073709551616) :
    ((((cls b : Nat) : Int) == 4) = true ∧ Hid (b = dnx b)) ∨
    ((((cls b : Nat) : Int) == 4) = false ∧ idx b ≤ 18437736874454810624 ∧ Hid (ati (idx b + 1) = dnx b)) ∨
    ((((cls b : Nat) : Int) == 4) = false ∧ 18437736874454810625 ≤ idx b ∧ idx b ≤ 18437736874454810625 ∧ Hid (ati 18437736874454810625 = dnx b)) := by
  have k := cls_nan (b := b)
  cases h : nan b
  · have k1 : cls b ≠ 4 := fun e => by rw [k.1 e] at h; cases h
    have h2 : idx b ≤ 18437736874454810625 := by
      unfold idx; rw [h, if_neg (by decide)]; unfold nan at h; simp [INF, SG] at h
      simp only [SG, INF]; split <;> omega
    by_cases h1 : idx b ≤ 18437736874454810624
    · exact .inr (.inl ⟨bf (by omega), h1, hid (by unfold dnx; rw [h, if_neg (by decide), Nat.min_eq_left (by omega)])⟩)
    · exact .inr (.inr ⟨bf (by omega), by omega, h2, hid (by unfold dnx; rw [h, if_neg (by decide), Nat.min_eq_right (by omega)])⟩)
  · exact .inl ⟨bt (by have := k.2 h; omega), hid (by unfold dnx; rw [if_pos h])⟩

theorem dpr_ways (b : Nat) (hb : b < 18446744073709551616) :
    ((((cls b : Nat) : Int) == 4) = true ∧ Hid (b = dpr b)) ∨
    ((((cls b : Nat) : Int) == 4) = false ∧ (((idx b : Nat) : Int) == 0) = true ∧ Hid (b = dpr b)) ∨
    ((((cls b : Nat) : Int) == 4) = false ∧ (((idx b : Nat) : Int) == 0) = false ∧ 1 ≤ idx b ∧ idx b ≤ 18437736874454810625 ∧ Hid (ati (idx b - 1) = dpr b)) := by
  have k := cls_nan (b := b)
  cases h : nan b
  · have k1 : cls b ≠ 4 := fun e => by rw [k.1 e] at h; cases h
    have h2 : idx b ≤ 18437736874454810625 := by
      unfold idx; rw [h, if_neg (by decide)]; unfold nan at h; simp [INF, SG] at h
      simp only [SG, INF]; split <;> omega
    by_cases h1 : idx b = 0
    · exact .inr (.inl ⟨bf (by omega), bt (by omega), hid (by unfold dpr; rw [h, dt h1]; exact (if_pos rfl).symm)⟩)
    · exact .inr (.inr ⟨bf (by omega), bf (by omega), by omega, h2, hid (by unfold dpr; rw [h, df h1]; exact (if_neg (by decide)).symm)⟩)
  · exact .inl ⟨bt (by have := k.2 h; omega), hid (by unfold dpr; rw [h]; exact (if_pos rfl).symm)⟩

/-- Ulps. -/
def ulp (a b : Nat) : Nat := if 0 < ordr (rnk a) (rnk b) then (plc a + 18446744073709551616 - plc b) % 18446744073709551616 else (plc b + 18446744073709551616 - plc a) % 18446744073709551616
def ulpV (a b : Nat) : Go.Value := if nan a || nan b then .tuple #[.int .u64 0, .int .i64 5] else .tuple #[.int .u64 (ulp a b : Nat), .int .i64 0]
theorem ulpV_1 {a b : Nat} (h : nan a = true ∨ (nan a = false ∧ nan b = true)) : ulpV a b = .tuple #[.int .u64 0, .int .i64 5] := by
  unfold ulpV; rw [if_pos]; rcases h with h | h <;> simp [h]
theorem ulpV_0 {a b : Nat} (h : nan a = false ∧ nan b = false) : ulpV a b = .tuple #[.int .u64 (ulp a b : Nat), .int .i64 0] := by
  unfold ulpV; rw [if_neg]; simp [h]
/-- The reference's. -/
def dul (a b : Nat) : Nat := max (idx a) (idx b) - min (idx a) (idx b)
def dulV (a b : Nat) : Go.Value := if nan a || nan b then .tuple #[.int .u64 0, .int .i64 5] else .tuple #[.int .u64 (dul a b : Nat), .int .i64 0]
theorem dulV_1 {a b : Nat} (h : nan a = true ∨ (nan a = false ∧ nan b = true)) : dulV a b = .tuple #[.int .u64 0, .int .i64 5] := by
  unfold dulV; rw [if_pos]; rcases h with h | h <;> simp [h]
theorem dulV_0 {a b : Nat} (h : nan a = false ∧ nan b = false) : dulV a b = .tuple #[.int .u64 (dul a b : Nat), .int .i64 0] := by
  unfold dulV; rw [if_neg]; simp [h]
theorem cls_ne {b : Nat} (h : nan b = false) : cls b ≠ 4 := fun e => by rw [cls_nan.1 e] at h; cases h
theorem dul_ways (a b : Nat) :
    ((((cls a : Nat) : Int) == 4) = true ∧ Hid (nan a = true)) ∨
    ((((cls a : Nat) : Int) == 4) = false ∧ (((cls b : Nat) : Int) == 4) = true ∧ Hid (nan a = false ∧ nan b = true)) ∨
    ((((cls a : Nat) : Int) == 4) = false ∧ (((cls b : Nat) : Int) == 4) = false ∧ idx a < idx b ∧ Hid (((idx b : Nat) : Int) - (idx a : Nat) = (dul a b : Nat) ∧ nan a = false ∧ nan b = false)) ∨
    ((((cls a : Nat) : Int) == 4) = false ∧ (((cls b : Nat) : Int) == 4) = false ∧ idx b < idx a ∧ Hid (((idx a : Nat) : Int) - (idx b : Nat) = (dul a b : Nat) ∧ nan a = false ∧ nan b = false)) ∨
    ((((cls a : Nat) : Int) == 4) = false ∧ (((cls b : Nat) : Int) == 4) = false ∧ ¬ idx a < idx b ∧ ¬ idx b < idx a ∧ Hid ((0 : Int) = (dul a b : Nat) ∧ nan a = false ∧ nan b = false)) := by
  cases h : nan a
  · cases h1 : nan b
    · by_cases h2 : idx a < idx b
      · refine .inr (.inr (.inl ⟨bf (by have := cls_ne h; omega), bf (by have := cls_ne h1; omega), h2, hid ⟨by unfold dul; omega, rfl, rfl⟩⟩))
      · by_cases h3 : idx b < idx a
        · refine .inr (.inr (.inr (.inl ⟨bf (by have := cls_ne h; omega), bf (by have := cls_ne h1; omega), h3, hid ⟨by unfold dul; omega, rfl, rfl⟩⟩)))
        · refine .inr (.inr (.inr (.inr ⟨bf (by have := cls_ne h; omega), bf (by have := cls_ne h1; omega), h2, h3, hid ⟨by unfold dul; omega, rfl, rfl⟩⟩)))
    · exact .inr (.inl ⟨bf (by have := cls_ne h; omega), bt (by have := cls_nan.2 h1; omega), hid ⟨rfl, rfl⟩⟩)
  · exact .inl ⟨bt (by have := cls_nan.2 h; omega), hid rfl⟩
theorem ulps_ways (a b : Nat) (ha : a < 18446744073709551616) (hb : b < 18446744073709551616) :
    ((Go.FloatKind.f64.format.order a a != some Ordering.eq) = true ∧ Hid (nan a = true)) ∨
    ((Go.FloatKind.f64.format.order a a != some Ordering.eq) = false ∧ (Go.FloatKind.f64.format.order b b != some Ordering.eq) = true ∧ Hid (nan a = false ∧ nan b = true)) ∨
    ((Go.FloatKind.f64.format.order a a != some Ordering.eq) = false ∧ (Go.FloatKind.f64.format.order b b != some Ordering.eq) = false ∧ decide (0 < ordr (rnk a) (rnk b)) = true ∧ Go.IntKind.u64.wrap (((plc a : Nat) : Int) - (plc b : Nat)) = (ulp a b : Nat) ∧ Hid (nan a = false ∧ nan b = false)) ∨
    ((Go.FloatKind.f64.format.order a a != some Ordering.eq) = false ∧ (Go.FloatKind.f64.format.order b b != some Ordering.eq) = false ∧ decide (0 < ordr (rnk a) (rnk b)) = false ∧ Go.IntKind.u64.wrap (((plc b : Nat) : Int) - (plc a : Nat)) = (ulp a b : Nat) ∧ Hid (nan a = false ∧ nan b = false)) := by
  rw [ne_self ha, ne_self hb]
  have pa := plc_lt ha
  have pb := plc_lt hb
  cases h : nan a
  · cases h1 : nan b
    · by_cases h2 : 0 < ordr (rnk a) (rnk b)
      · refine .inr (.inr (.inl ⟨rfl, rfl, dt h2, ?_, hid ⟨rfl, rfl⟩⟩))
        unfold ulp; rw [if_pos h2]
        simp only [Go.IntKind.wrap, Go.IntKind.bits, Go.IntKind.signed]; simp; omega
      · refine .inr (.inr (.inr ⟨rfl, rfl, df h2, ?_, hid ⟨rfl, rfl⟩⟩))
        unfold ulp; rw [if_neg h2]
        simp only [Go.IntKind.wrap, Go.IntKind.bits, Go.IntKind.signed]; simp; omega
    · exact .inr (.inl ⟨rfl, rfl, hid ⟨rfl, rfl⟩⟩)
  · exact .inl ⟨rfl, hid rfl⟩

end Go.Proofs.YtnghppgpdeghfaaGreatDoor.Pt
namespace Go.Proofs.YtnghppgpdeghfaaGreatDoor.Pt
open Go.Proofs.YtnghppgpdeghfaaGreatDoor.Fl Go.Lib Go.RowKit

/-- 'm / 2^s' to the nearest, ties to the even one. -/
def rnd (m s : Nat) : Nat := m / 2 ^ s + (if 2 ^ s < 2 * (m % 2 ^ s) ∨ (2 ^ s = 2 * (m % 2 ^ s) ∧ m / 2 ^ s % 2 = 1) then 1 else 0)
theorem rnd_cut (m s : Nat) : rnd m s = Ieee.Toward.even.cut false m s := (cut_eq false m s).symm

theorem rnd_great {m s : Nat} (hm : m < 18446744073709551616) (hs : 65 ≤ s) : rnd m s = 0 := by
  have h1 : (2 : Nat) ^ 65 ≤ 2 ^ s := Nat.pow_le_pow_right (by decide) hs
  have h2 : (2 : Nat) ^ 65 = 36893488147419103232 := by decide
  rw [h2] at h1
  unfold rnd
  rw [Nat.div_eq_of_lt (by omega), Nat.mod_eq_of_lt (by omega), if_neg (by omega)]

theorem u64w (n : Int) : Go.IntKind.u64.wrap n = n % 18446744073709551616 := by
  simp [Go.IntKind.wrap, Go.IntKind.bits, Go.IntKind.signed]

theorem bits_and_nat (a b : Nat) (ha : a < 18446744073709551616) (hb : b < 18446744073709551616) : Go.bits .and .u64 (a : Int) (b : Int) = ((a &&& b : Nat) : Int) := by
  have h1 : (BitVec.ofInt 64 (a : Int)).toNat = a := by
    rw [BitVec.ofInt_natCast, BitVec.toNat_ofNat]; exact Nat.mod_eq_of_lt (by omega)
  have h2 : (BitVec.ofInt 64 (b : Int)).toNat = b := by
    rw [BitVec.ofInt_natCast, BitVec.toNat_ofNat]; exact Nat.mod_eq_of_lt (by omega)
  show Go.IntKind.u64.wrap ((BitVec.ofInt 64 (a : Int) &&& BitVec.ofInt 64 (b : Int)).toNat : Int) = _
  rw [BitVec.toNat_and, h1, h2, u64w]
  have : a &&& b ≤ a := Nat.and_le_left
  omega

theorem two_pow_split {n : Nat} (h : 1 ≤ n) : (2 : Nat) ^ n = 2 * 2 ^ (n - 1) := by
  obtain ⟨k, rfl⟩ : ∃ k, n = k + 1 := ⟨n - 1, by omega⟩
  rw [Nat.pow_succ]; simp; omega

/-- The names of round's steps. -/
theorem round_names (m n : Nat) (hm : m < 18446744073709551616) (h1 : 1 ≤ n) (h2 : n ≤ 64) : ∃ h t k r q : Nat,
    Go.IntKind.u64.wrap ((2 : Int) ^ (n - 1)) = h ∧ Go.IntKind.u64.wrap (2 * (h : Int)) = t ∧ Go.IntKind.u64.wrap ((t : Int) - 1) = k ∧ Go.bits .and .u64 (m : Int) (k : Int) = r ∧ (m : Int) / 2 ^ n = q ∧ q < 9223372036854775808 ∧
    Hid (h = 2 ^ (n - 1) ∧ r = m % 2 ^ n ∧ q = m / 2 ^ n) := by
  have p0 : (2 : Nat) ^ (n - 1) ≤ 2 ^ 63 := Nat.pow_le_pow_right (by decide) (by omega)
  have p1 := two_pow_split h1
  have p2 : 0 < (2 : Nat) ^ (n - 1) := Nat.two_pow_pos _
  have c1 : ((2 : Int) ^ (n - 1)) = ((2 ^ (n - 1) : Nat) : Int) := by simp
  have c2 : ((2 : Int) ^ n) = ((2 ^ n : Nat) : Int) := by simp
  have p4 : (2 : Nat) ^ 63 = 9223372036854775808 := by decide
  rw [p4] at p0
  have hk : (2 * 2 ^ (n - 1)) % 18446744073709551616 = if n = 64 then 0 else 2 ^ n := by
    split
    · rename_i e; subst e; decide
    · have : (2 : Nat) ^ (n - 1) ≤ 2 ^ 62 := Nat.pow_le_pow_right (by decide) (by omega)
      have p5 : (2 : Nat) ^ 62 = 4611686018427387904 := by decide
      rw [← p1]; rw [p5] at this; omega
  have hq : m / 2 ^ n < 9223372036854775808 := by
    have : m / 2 ^ n ≤ m / 2 := Nat.div_le_div_left (by omega) (by decide)
    omega
  refine ⟨2 ^ (n - 1), (2 * 2 ^ (n - 1)) % 18446744073709551616, 2 ^ n - 1, m % 2 ^ n, m / 2 ^ n, ?_, ?_, ?_, ?_, ?_, hq, hid ⟨rfl, rfl, rfl⟩⟩
  · rw [u64w, c1]; omega
  · rw [u64w]; omega
  · rw [u64w, hk]
    split
    · rename_i e; subst e; decide
    · rename_i e
      have : (2 : Nat) ^ (n - 1) ≤ 2 ^ 62 := Nat.pow_le_pow_right (by decide) (by omega)
      have p5 : (2 : Nat) ^ 62 = 4611686018427387904 := by decide
      rw [p5] at this; omega
  · rw [bits_and_nat _ _ hm (by omega), Nat.and_two_pow_sub_one_eq_mod]
  · rw [c2]; omega

theorem round_ways {m n h r q : Nat} (h1 : 1 ≤ n) (e1 : h = 2 ^ (n - 1)) (e2 : r = m % 2 ^ n) (e3 : q = m / 2 ^ n) :
    (decide (h < r) = true ∧ Hid ((q : Int) + 1 = (rnd m n : Nat))) ∨
    (decide (h < r) = false ∧ ((r : Int) == (h : Int)) = true ∧ ((q : Int) % 2 == 1) = true ∧ Hid ((q : Int) + 1 = (rnd m n : Nat))) ∨
    (decide (h < r) = false ∧ ((r : Int) == (h : Int)) = true ∧ ((q : Int) % 2 == 1) = false ∧ Hid ((q : Int) = (rnd m n : Nat))) ∨
    (decide (h < r) = false ∧ ((r : Int) == (h : Int)) = false ∧ Hid ((q : Int) = (rnd m n : Nat))) := by
  have p1 := two_pow_split h1
  rw [← e1] at p1
  have e : rnd m n = q + (if 2 * h < 2 * r ∨ (2 * h = 2 * r ∧ q % 2 = 1) then 1 else 0) := by unfold rnd; rw [← e2, ← e3, p1]
  rcases Nat.lt_trichotomy h r with c | c | c
  · exact .inl ⟨dt c, hid (by rw [e, if_pos (by omega)]; omega)⟩
  · by_cases c2 : q % 2 = 1
    · exact .inr (.inl ⟨df (by omega), bt (by omega), bt (by omega), hid (by rw [e, if_pos (by omega)]; omega)⟩)
    · exact .inr (.inr (.inl ⟨df (by omega), bt (by omega), bf (by omega), hid (by rw [e, if_neg (by omega)]; omega)⟩))
  · exact .inr (.inr (.inr ⟨df (by omega), bf (by omega), hid (by rw [e, if_neg (by omega)]; omega)⟩))


theorem bitLenAux_eq : ∀ (f x : Nat), x < 2 ^ f → bitLenAux f x = if x = 0 then 0 else x.log2 + 1
  | 0, x, h => by have : x = 0 := by simpa using h
                  subst this; rfl
  | f + 1, x, h => by
    unfold bitLenAux
    by_cases h0 : x = 0
    · rw [if_pos h0, if_pos h0]
    · rw [if_neg h0, if_neg h0, bitLenAux_eq f (x / 2) (by rw [Nat.pow_succ] at h; omega)]
      by_cases h1 : x / 2 = 0
      · have : x = 1 := by omega
        subst this; decide
      · rw [if_neg h1, Nat.log2_def x, if_pos (by omega)]; omega

theorem bitLen_eq {x : Nat} (h : x < 18446744073709551616) (h0 : x ≠ 0) : bitLen x = x.log2 + 1 := by
  unfold bitLen; rw [bitLenAux_eq 64 x h, if_neg h0]

theorem bitLen_bd {x : Nat} (h : x < 18446744073709551616) (h0 : x ≠ 0) : 1 ≤ bitLen x ∧ bitLen x ≤ 64 ∧ 2 ^ (bitLen x - 1) ≤ x ∧ x < 2 ^ bitLen x := by
  rw [bitLen_eq h h0]
  have h1 := (Nat.log2_eq_iff h0).1 rfl
  have h2 : x.log2 < 64 := (Nat.log2_lt h0).2 h
  exact ⟨by omega, by omega, by simpa using h1.1, h1.2⟩

/-- The place of the last digit. -/
def lst (m : Nat) (e : Int) : Int := max (e + (bitLen m : Nat) - 53) (-1074)
def kpt (m : Nat) (e : Int) : Nat := if lst m e ≤ e then m * 2 ^ (e - lst m e).toNat else rnd m (lst m e - e).toNat
/-- The rung of 'm * 2^e' as Join reckons it. -/
def joinN (m : Nat) (e : Int) : Nat :=
  if m = 0 ∨ e < -2000 then 0 else if 2000 < e then INF else if kpt m e < ON then kpt m e else min ((lst m e + 1074).toNat * ON + kpt m e) INF

theorem rnd_le {m s k : Nat} (h : m < 2 ^ (s + k)) : rnd m s ≤ 2 ^ k := by
  unfold rnd
  have : m / 2 ^ s < 2 ^ k := by rw [Nat.div_lt_iff_lt_mul (Nat.two_pow_pos _), Nat.mul_comm, ← Nat.pow_add]; exact h
  split <;> omega
theorem rnd_ge {m s k : Nat} (h : 2 ^ (s + k) ≤ m) : 2 ^ k ≤ rnd m s := by
  unfold rnd
  have : 2 ^ k ≤ m / 2 ^ s := by rw [Nat.le_div_iff_mul_le (Nat.two_pow_pos _), Nat.mul_comm, ← Nat.pow_add]; exact h
  omega

/-- How great what is kept is. -/
theorem kpt_bd {m : Nat} {e : Int} (hm : m < 18446744073709551616) (h0 : m ≠ 0) : kpt m e ≤ 9007199254740992 ∧ (-1074 < lst m e → 4503599627370496 ≤ kpt m e) ∧ (lst m e ≤ e → kpt m e < 9007199254740992) := by
  obtain ⟨b1, b2, b3, b4⟩ := bitLen_bd hm h0
  have q53 : (2 : Nat) ^ 53 = 9007199254740992 := by decide
  have q52 : (2 : Nat) ^ 52 = 4503599627370496 := by decide
  unfold kpt
  have hl : lst m e = max (e + (bitLen m : Nat) - 53) (-1074) := rfl
  by_cases c : lst m e ≤ e
  · rw [if_pos c]
    have u1 : m * 2 ^ (e - lst m e).toNat < 2 ^ (bitLen m + (e - lst m e).toNat) := by
      rw [Nat.pow_add]; exact Nat.mul_lt_mul_of_pos_right b4 (Nat.two_pow_pos _)
    have u2 : (2 : Nat) ^ (bitLen m + (e - lst m e).toNat) ≤ 2 ^ 53 := Nat.pow_le_pow_right (by decide) (by omega)
    refine ⟨by omega, fun h => ?_, fun _ => by omega⟩
    have u3 : 2 ^ (bitLen m - 1 + (e - lst m e).toNat) ≤ m * 2 ^ (e - lst m e).toNat := by
      rw [Nat.pow_add]; exact Nat.mul_le_mul_right _ b3
    have u4 : bitLen m - 1 + (e - lst m e).toNat = 52 := by omega
    rw [u4, q52] at u3
    exact u3
  · rw [if_neg c]
    refine ⟨?_, fun h => ?_, fun h => absurd h c⟩
    · rw [← q53]
      refine rnd_le (Nat.lt_of_lt_of_le b4 (Nat.pow_le_pow_right (by decide) (by omega)))
    · rw [← q52]
      refine rnd_ge (Nat.le_trans (Nat.pow_le_pow_right (by decide) (by omega)) b3)

/-- Join's rung is the nearest one. -/
theorem joinN_RN {m : Nat} {e : Int} (hm : m < 18446744073709551616) : joinN m e = RN m (e + 1074) := by
  unfold joinN
  by_cases h0 : m = 0
  · rw [if_pos (.inl h0)]; unfold RN; rw [if_pos h0]
  obtain ⟨b1, b2, b3, b4⟩ := bitLen_bd hm h0
  have hl : lst m e = max (e + (bitLen m : Nat) - 53) (-1074) := rfl
  have hlm : -1074 ≤ lst m e := by omega
  have hb : (bnd m (e + 1074) : Int) = lst m e + 1074 := by
    unfold bnd; have := bitLen_eq hm h0; omega
  have hk : Ieee.Toward.even.cut false (m * 2 ^ (e + 1074 - bnd m (e + 1074)).toNat) ((bnd m (e + 1074) : Int) - (e + 1074)).toNat = kpt m e := by
    unfold kpt
    rw [hb]
    have e1 : (e + 1074 - (lst m e + 1074)).toNat = (e - lst m e).toNat := by omega
    have e2 : (lst m e + 1074 - (e + 1074)).toNat = (lst m e - e).toNat := by omega
    rw [e1, e2]
    by_cases c : lst m e ≤ e
    · rw [if_pos c]
      have e3 : (lst m e - e).toNat = 0 := by omega
      rw [e3, cut_eq]; simp
      omega
    · rw [if_neg c]
      have e3 : (e - lst m e).toNat = 0 := by omega
      rw [e3, rnd_cut]; simp
  have hR : RN m (e + 1074) = min ((lst m e + 1074).toNat * ON + kpt m e) INF := by
    unfold RN; rw [if_neg h0, hk]
    have : bnd m (e + 1074) = (lst m e + 1074).toNat := by omega
    rw [this]
  rw [hR]
  clear hR hk hb
  have kb := kpt_bd (e := e) hm h0
  by_cases h1 : e < -2000
  · rw [if_pos (.inr h1)]
    have e1 : lst m e = -1074 := by omega
    have e2 : kpt m e = 0 := by unfold kpt; rw [if_neg (by omega)]; exact rnd_great hm (by omega)
    rw [e1, e2]; decide
  · rw [if_neg (by omega)]
    have hl2 : e - 52 ≤ lst m e := by omega
    generalize hL : lst m e = L at *
    generalize hK : kpt m e = K at *
    clear hl hL hK b1 b2 b3 b4
    by_cases h2 : 2000 < e
    · rw [if_pos h2]
      have h5 : 3000 ≤ (L + 1074).toNat := by omega
      generalize (L + 1074).toNat = u at *
      have h6 : 3000 * ON ≤ u * ON := Nat.mul_le_mul_right _ h5
      refine (Nat.min_eq_right ?_).symm
      have h7 : INF ≤ 3000 * ON := by decide
      exact Nat.le_trans h7 (Nat.le_trans h6 (Nat.le_add_right _ _))
    · rw [if_neg h2]
      by_cases h3 : K < ON
      · rw [if_pos h3]
        have h4 : L = -1074 := by
          by_cases h8 : -1074 < L
          · have := kb.2.1 h8
            simp only [ON] at h3; omega
          · omega
        rw [h4]
        have h9 : ((-1074 : Int) + 1074).toNat * ON + K = K := by simp
        rw [h9]
        exact (Nat.min_eq_left (Nat.le_of_lt (Nat.lt_trans h3 (by decide)))).symm
      · rw [if_neg h3]

/-- Join's ways. -/
theorem join_ways (m : Nat) (e : Int) :
    ((((m : Int) == 0) = true) ∧ Hid (0 = joinN m e)) ∨
    ((((m : Int) == 0) = false) ∧ decide (e < -2000) = true ∧ Hid (0 = joinN m e)) ∨
    ((((m : Int) == 0) = false) ∧ decide (e < -2000) = false ∧ decide (2000 < e) = true ∧ Hid (9218868437227405312 = joinN m e)) ∨
    ((((m : Int) == 0) = false) ∧ decide (e < -2000) = false ∧ decide (2000 < e) = false ∧ Hid (m ≠ 0 ∧ -2000 ≤ e ∧ e ≤ 2000)) := by
  by_cases h0 : m = 0
  · exact .inl ⟨bt (by omega), hid (by unfold joinN; rw [if_pos (.inl h0)])⟩
  · by_cases h1 : e < -2000
    · exact .inr (.inl ⟨bf (by omega), dt h1, hid (by unfold joinN; rw [if_pos (.inr h1)])⟩)
    · by_cases h2 : 2000 < e
      · exact .inr (.inr (.inl ⟨bf (by omega), df h1, dt h2, hid (by unfold joinN; rw [if_neg (by omega), if_pos h2])⟩))
      · exact .inr (.inr (.inr ⟨bf (by omega), df h1, df h2, hid ⟨h0, by omega, by omega⟩⟩))


theorem cast_mul_pow (m j : Nat) : (m : Int) * 2 ^ j = ((m * 2 ^ j : Nat) : Int) := by simp

/-- The names of Join's steps, where neither the number is nought nor the power far out. -/
theorem join_names {m : Nat} {e : Int} (hm : m < 18446744073709551616) (h0 : m ≠ 0) (e1 : -2000 ≤ e) (e2 : e ≤ 2000) : ∃ (k K : Nat) (L : Int),
    bitLen m = k ∧ k ≤ 64 ∧ max (e + (k : Int) - 52 - 1) (-1074) = L ∧ -1074 ≤ L ∧ L ≤ 2011 ∧ K ≤ 9007199254740992 ∧ Hid (L = lst m e ∧ K = kpt m e) ∧
    ((decide (L ≤ e) = true ∧ L ≤ e ∧ e - L ≤ 64 ∧ Go.IntKind.u64.wrap ((m : Int) * 2 ^ (e - L).toNat) = (K : Int)) ∨
     (decide (L ≤ e) = false ∧ e < L ∧ rnd m (L - e).toNat = K)) := by
  obtain ⟨b1, b2, b3, b4⟩ := bitLen_bd hm h0
  have hl : lst m e = max (e + (bitLen m : Nat) - 53) (-1074) := rfl
  have kb := kpt_bd (e := e) hm h0
  refine ⟨bitLen m, kpt m e, lst m e, rfl, b2, by omega, by omega, by omega, by omega, hid ⟨rfl, rfl⟩, ?_⟩
  by_cases c : lst m e ≤ e
  · refine .inl ⟨dt c, c, by omega, ?_⟩
    have e3 : kpt m e = m * 2 ^ (e - lst m e).toNat := by unfold kpt; rw [if_pos c]
    rw [cast_mul_pow, ← e3, u64w]
    omega
  · exact .inr ⟨df c, by omega, by unfold kpt; rw [if_neg c]⟩

theorem cast_min (a b : Nat) : ((min a b : Nat) : Int) = min (a : Int) (b : Int) := by omega

/-- The end of Join. -/
theorem join_ends {m : Nat} {e : Int} {K : Nat} {L : Int} (h0 : m ≠ 0) (e1 : -2000 ≤ e) (e2 : e ≤ 2000) (hL : L = lst m e) (hK : K = kpt m e) (g1 : -1074 ≤ L) (g2 : L ≤ 2011) (g3 : K ≤ 9007199254740992) :
    (decide ((K : Int) < 4503599627370496) = true ∧ Hid (K = joinN m e)) ∨
    (∃ R : Nat, decide ((K : Int) < 4503599627370496) = false ∧ min ((L + 1074) * 4503599627370496 + (K : Int)) 9218868437227405312 = (R : Int) ∧ R ≤ 9218868437227405312 ∧ Hid (R = joinN m e)) := by
  have e3 : joinN m e = if K < ON then K else min ((L + 1074).toNat * ON + K) INF := by
    unfold joinN; rw [if_neg (by omega), if_neg (by omega), ← hK, ← hL]
  by_cases c : K < ON
  · exact .inl ⟨dt (by simp only [ON] at c; omega), hid (by rw [e3, if_pos c])⟩
  · refine .inr ⟨min ((L + 1074).toNat * ON + K) INF, df (by simp only [ON] at c; omega), ?_, Nat.min_le_right _ _, hid (by rw [e3, if_neg c])⟩
    obtain ⟨l, hl⟩ := Int.eq_ofNat_of_zero_le (show 0 ≤ L + 1074 by omega)
    rw [hl, Int.toNat_natCast, cast_min, Int.natCast_add, Int.natCast_mul]
    rfl


/-! ### the reference -/
theorem bitLen_half {x : Nat} (h : x < 18446744073709551616) (h0 : x ≠ 0) : bitLen x = bitLen (x / 2) + 1 := by
  rw [bitLen_eq h h0]
  by_cases h1 : x / 2 = 0
  · have : x = 1 := by omega
    subst this; decide
  · rw [bitLen_eq (by omega) h1, Nat.log2_def x, if_pos (by omega)]
theorem bitLen_zero : bitLen 0 = 0 := by decide

/-- What the reference's loop of halvings keeps: the number, the last half, and whether there was anything below it. -/
def St (m j N r : Nat) (h : Bool) : Prop := N = m / 2 ^ j ∧ r < 2 ∧ (j = 0 → r = 0 ∧ h = false) ∧ (1 ≤ j → r = m / 2 ^ (j - 1) % 2 ∧ (h = true ↔ m % 2 ^ (j - 1) ≠ 0))

theorem St_zero (m : Nat) : St m 0 m 0 false := ⟨by simp, by decide, fun _ => ⟨rfl, rfl⟩, fun h => by omega⟩

theorem St_step {m j N r : Nat} {h : Bool} (s : St m j N r h) : St m (j + 1) (N / 2) (N % 2) (h || r == 1) := by
  obtain ⟨s1, s2, s3, s4⟩ := s
  refine ⟨?_, by omega, fun h => by omega, fun _ => ⟨?_, ?_⟩⟩
  · rw [s1, Nat.pow_succ, Nat.div_div_eq_div_mul]
  · rw [s1]; simp
  · simp only [Nat.add_sub_cancel]
    by_cases hj : j = 0
    · subst hj
      obtain ⟨r0, h0⟩ := s3 rfl
      rw [r0, h0]; simp; omega
    · obtain ⟨k, rfl⟩ : ∃ k, j = k + 1 := ⟨j - 1, by omega⟩
      obtain ⟨r1, h1⟩ := s4 (by omega)
      simp only [Nat.add_sub_cancel] at r1 h1
      have e : m % 2 ^ (k + 1) = m % 2 ^ k + 2 ^ k * (m / 2 ^ k % 2) := by rw [Nat.pow_succ]; exact Nat.mod_mul
      rw [e, ← r1]
      have p := Nat.two_pow_pos k
      rcases (show r = 0 ∨ r = 1 by omega) with hr | hr
      · rw [hr]; simp [h1]
      · rw [hr]; simp

theorem St_end {m s N r : Nat} {h : Bool} (hs : 1 ≤ s) (t : St m s N r h) :
    (((r : Int) == 1) = true ∧ h = true ∧ Hid ((N : Int) + 1 = (rnd m s : Nat))) ∨
    (((r : Int) == 1) = true ∧ h = false ∧ ((N : Int) % 2 == 1) = true ∧ Hid ((N : Int) + 1 = (rnd m s : Nat))) ∨
    (((r : Int) == 1) = true ∧ h = false ∧ ((N : Int) % 2 == 1) = false ∧ Hid ((N : Int) = (rnd m s : Nat))) ∨
    (((r : Int) == 1) = false ∧ Hid ((N : Int) = (rnd m s : Nat))) := by
  obtain ⟨s1, s2, s3, s4⟩ := t
  obtain ⟨r1, h1⟩ := s4 hs
  obtain ⟨k, rfl⟩ : ∃ k, s = k + 1 := ⟨s - 1, by omega⟩
  simp only [Nat.add_sub_cancel] at r1 h1
  have e : m % 2 ^ (k + 1) = m % 2 ^ k + 2 ^ k * r := by rw [Nat.pow_succ, r1]; exact Nat.mod_mul
  have p := Nat.mod_lt m (Nat.two_pow_pos k)
  have pp := Nat.two_pow_pos k
  have e2 : rnd m (k + 1) = N + (if 2 ^ k * 2 < 2 * (m % 2 ^ k + 2 ^ k * r) ∨ (2 ^ k * 2 = 2 * (m % 2 ^ k + 2 ^ k * r) ∧ N % 2 = 1) then 1 else 0) := by
    unfold rnd; rw [e, ← s1, Nat.pow_succ]
  generalize (2 : Nat) ^ k = P at *
  rcases (show r = 0 ∨ r = 1 by omega) with hr | hr
  · exact .inr (.inr (.inr ⟨bf (by omega), hid (by rw [e2, hr, if_neg (by simp; omega)]; omega)⟩))
  · cases hh : h
    · have h2 : m % P = 0 := by
        by_cases c : m % P = 0
        · exact c
        · have := h1.2 c; rw [hh] at this; cases this
      by_cases c : N % 2 = 1
      · exact .inr (.inl ⟨bt (by omega), rfl, bt (by omega), hid (by rw [e2, hr, h2, if_pos (by simp; omega)]; omega)⟩)
      · exact .inr (.inr (.inl ⟨bt (by omega), rfl, bf (by omega), hid (by rw [e2, hr, h2, if_neg (by simp; omega)]; omega)⟩))
    · have h2 := h1.1 hh
      exact .inl ⟨bt (by omega), rfl, hid (by rw [e2, hr, if_pos (by simp; omega)]; omega)⟩

/-- The reference's rung. -/
def nearN (m : Nat) (e : Int) : Nat :=
  if m = 0 ∨ e < -1200 then 0 else if 1100 < e then INF else if kpt m e < ON then kpt m e else min ((lst m e + 1074).toNat * ON + kpt m e) INF

theorem nearN_RN {m : Nat} {e : Int} (hm : m < 18446744073709551616) : nearN m e = RN m (e + 1074) := by
  rw [← joinN_RN hm]
  unfold nearN joinN
  by_cases h0 : m = 0
  · rw [if_pos (.inl h0), if_pos (.inl h0)]
  obtain ⟨b1, b2, b3, b4⟩ := bitLen_bd hm h0
  have hl : lst m e = max (e + (bitLen m : Nat) - 53) (-1074) := rfl
  by_cases c1 : e < -1200
  · rw [if_pos (.inr c1)]
    by_cases c2 : e < -2000
    · rw [if_pos (.inr c2)]
    · have e2 : kpt m e = 0 := by unfold kpt; rw [if_neg (by omega)]; exact rnd_great hm (by omega)
      rw [if_neg (by omega), if_neg (by omega), e2, if_pos (by decide)]
  · rw [if_neg (by omega), if_neg (show ¬ (m = 0 ∨ e < -2000) by omega)]
    by_cases c3 : 1100 < e
    · rw [if_pos c3]
      by_cases c4 : 2000 < e
      · rw [if_pos c4]
      · rw [if_neg c4]
        have kb := kpt_bd (e := e) hm h0
        have k2 := kb.2.1 (by omega)
        have h5 : 2100 ≤ (lst m e + 1074).toNat := by omega
        rw [if_neg (by simp only [ON]; omega)]
        generalize (lst m e + 1074).toNat = u at *
        have h6 : 2100 * ON ≤ u * ON := Nat.mul_le_mul_right _ h5
        refine (Nat.min_eq_right ?_).symm
        have h7 : INF ≤ 2100 * ON := by decide
        exact Nat.le_trans h7 (Nat.le_trans h6 (Nat.le_add_right _ _))
    · rw [if_neg c3, if_neg (show ¬ 2000 < e by omega)]

theorem near_ways (m : Nat) (e : Int) :
    ((((m : Int) == 0) = true) ∧ Hid (0 = nearN m e)) ∨
    ((((m : Int) == 0) = false) ∧ decide (e < -1200) = true ∧ Hid (0 = nearN m e)) ∨
    ((((m : Int) == 0) = false) ∧ decide (e < -1200) = false ∧ decide (1100 < e) = true ∧ Hid (9218868437227405312 = nearN m e)) ∨
    ((((m : Int) == 0) = false) ∧ decide (e < -1200) = false ∧ decide (1100 < e) = false ∧ Hid (m ≠ 0 ∧ -1200 ≤ e ∧ e ≤ 1100)) := by
  by_cases h0 : m = 0
  · exact .inl ⟨bt (by omega), hid (by unfold nearN; rw [if_pos (.inl h0)])⟩
  · by_cases h1 : e < -1200
    · exact .inr (.inl ⟨bf (by omega), dt h1, hid (by unfold nearN; rw [if_pos (.inr h1)])⟩)
    · by_cases h2 : 1100 < e
      · exact .inr (.inr (.inl ⟨bf (by omega), df h1, dt h2, hid (by unfold nearN; rw [if_neg (by omega), if_pos h2])⟩))
      · exact .inr (.inr (.inr ⟨bf (by omega), df h1, df h2, hid ⟨h0, by omega, by omega⟩⟩))

theorem near_names {m : Nat} {e : Int} (hm : m < 18446744073709551616) (h0 : m ≠ 0) (e1 : -1200 ≤ e) (e2 : e ≤ 1100) : ∃ (k K : Nat) (L : Int),
    bitLen m = k ∧ k ≤ 64 ∧ max ((k : Int) + e - 53) (-1074) = L ∧ -1074 ≤ L ∧ L ≤ 1111 ∧ K ≤ 9007199254740992 ∧ Hid (L = lst m e ∧ K = kpt m e) ∧
    ((decide (L ≤ e) = true ∧ L ≤ e ∧ Hid (K = m * 2 ^ (e - L).toNat)) ∨
     (decide (L ≤ e) = false ∧ e < L ∧ Hid (K = rnd m (L - e).toNat))) := by
  obtain ⟨b1, b2, b3, b4⟩ := bitLen_bd hm h0
  have hl : lst m e = max (e + (bitLen m : Nat) - 53) (-1074) := rfl
  have kb := kpt_bd (e := e) hm h0
  refine ⟨bitLen m, kpt m e, lst m e, rfl, b2, by omega, by omega, by omega, by omega, hid ⟨rfl, rfl⟩, ?_⟩
  by_cases c : lst m e ≤ e
  · exact .inl ⟨dt c, c, hid (by unfold kpt; rw [if_pos c])⟩
  · exact .inr ⟨df c, by omega, hid (by unfold kpt; rw [if_neg c])⟩

theorem near_ends {m : Nat} {e : Int} {K : Nat} {L : Int} (h0 : m ≠ 0) (e1 : -1200 ≤ e) (e2 : e ≤ 1100) (hL : L = lst m e) (hK : K = kpt m e) (g1 : -1074 ≤ L) :
    (decide ((K : Int) < 4503599627370496) = true ∧ Hid (K = nearN m e)) ∨
    (∃ R : Nat, decide ((K : Int) < 4503599627370496) = false ∧ 4503599627370496 ≤ K ∧ min ((K : Int) - 4503599627370496 + (L + 1075) * 4503599627370496) 9218868437227405312 = (R : Int) ∧ Hid (R = nearN m e)) := by
  have e3 : nearN m e = if K < ON then K else min ((L + 1074).toNat * ON + K) INF := by
    unfold nearN; rw [if_neg (by omega), if_neg (by omega), ← hK, ← hL]
  by_cases c : K < ON
  · exact .inl ⟨dt (by simp only [ON] at c; omega), hid (by rw [e3, if_pos c])⟩
  · refine .inr ⟨min ((L + 1074).toNat * ON + K) INF, df (by simp only [ON] at c; omega), by simp only [ON] at c; omega, ?_, hid (by rw [e3, if_neg c])⟩
    obtain ⟨l, hl⟩ := Int.eq_ofNat_of_zero_le (show 0 ≤ L + 1074 by omega)
    have e4 : (K : Int) - 4503599627370496 + (L + 1075) * 4503599627370496 = (l : Int) * 4503599627370496 + K := by
      have : L + 1075 = (l : Int) + 1 := by omega
      rw [this, Int.add_mul]; omega
    rw [e4, hl, Int.toNat_natCast, cast_min, Int.natCast_add, Int.natCast_mul]
    rfl

end Go.Proofs.YtnghppgpdeghfaaGreatDoor.Pt
