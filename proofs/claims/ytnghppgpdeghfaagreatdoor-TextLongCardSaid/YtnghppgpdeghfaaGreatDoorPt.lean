/- Plain definitions and laws of layer 1 (part): what each function computes, on the bits of a float; no Go in sight. -/
import Derived.Test.YtnghppgpdeghfaaGreatDoorFloat
import Derived.Lib.Hide
namespace Go.Proofs.YtnghppgpdeghfaaGreatDoor.Pt
open Go.Proofs.YtnghppgpdeghfaaGreatDoor.Fl Go.Lib Go.RowKit

theorem dt {p : Prop} [Decidable p] (h : p) : decide p = true := by simp [h]
theorem df {p : Prop} [Decidable p] (h : ¬ p) : decide p = false := by simp [h]
theorem bt {a b : Int} (h : a = b) : (a == b) = true := by simp [h]
theorem bf {a b : Int} (h : a ≠ b) : (a == b) = false := by simp [h]

/-- The class of a float. -/
def cls (b : Nat) : Nat := if b % SG = 0 then 0 else if b % SG < ON then 1 else if b % SG < INF then 2 else if b % SG = INF then 3 else 4
def sgb (b : Nat) : Bool := decide (SG ≤ b)

/-- Split: a number's significand, power. -/
def spm (b : Nat) : Nat := if b % SG < ON then b % SG else b % ON + ON
def spe (b : Nat) : Int := if b % SG < ON then -1074 else (b % SG / ON : Nat) - 1075

/-- The place in the order, modulo 2^64 (and the float at a place). -/
def plc (b : Nat) : Nat := if SG ≤ b then 27670116110564327423 - b else b
/-- The rank. -/
def rnk (b : Nat) : Int := if nan b then 9223372036854775807 else if SG ≤ b then 9223372036854775807 - b else b
def ordr (x y : Int) : Int := if x < y then -1 else if y < x then 1 else 0
/-- The reference's index, and the float there. -/
def idx (b : Nat) : Nat := if nan b then 18437736874454810627 else if SG ≤ b then INF - b % SG else INF + 1 + b
def ati (i : Nat) : Nat := if i ≤ INF then INF - i + SG else i - INF - 1
/-- The nought of its sign. -/
def sgw (b : Nat) : Nat := if SG ≤ b then SG else 0
def flu (b : Nat) : Nat := if cls b = 1 then sgw b else b

theorem plc_lt {b : Nat} (h : b < 18446744073709551616) : plc b < 18446744073709551616 := by unfold plc; simp only [SG]; split <;> omega
theorem plc_plc {b : Nat} (h : b < 18446744073709551616) : plc (plc b) = b := by
  unfold plc; simp only [SG]
  by_cases h1 : 9223372036854775808 ≤ b
  · rw [if_pos h1, if_pos (by omega)]; omega
  · rw [if_neg h1, if_neg h1]
theorem idx_lt {b : Nat} (h : b < 18446744073709551616) : idx b ≤ 18437736874454810627 := by
  unfold idx nan; simp only [SG, INF, decide_eq_true_eq]
  split
  · omega
  · split <;> omega

theorem cls_nan {b : Nat} : cls b = 4 ↔ nan b = true := by
  unfold cls nan; simp only [SG, ON, INF, decide_eq_true_eq]
  repeat' (split; · omega)
  omega

theorem ne_self {b : Nat} (hb : b < 18446744073709551616) : (Go.FloatKind.f64.format.order b b != some Ordering.eq) = nan b := by
  show (Ieee.double.order b b != some Ordering.eq) = nan b
  rw [order_eq hb hb]
  cases h : nan b
  · simp
  · simp

theorem place_ways (b : Nat) (hb : b < 18446744073709551616) :
    (decide ((9223372036854775808 : Int) ≤ b) = true ∧ Go.IntKind.u64.wrap (9223372036854775807 - (b : Int)) = (plc b : Nat) ∧ Hid (SG ≤ b)) ∨
    (decide ((9223372036854775808 : Int) ≤ b) = false ∧ Hid (((b : Nat) : Int) = (plc b : Nat) ∧ ¬ SG ≤ b)) := by
  by_cases h1 : 9223372036854775808 ≤ b
  · refine .inl ⟨dt (by omega), ?_, hid h1⟩
    have : plc b = 27670116110564327423 - b := by unfold plc; rw [if_pos h1]
    rw [this]
    simp only [Go.IntKind.wrap, Go.IntKind.bits, Go.IntKind.signed]; simp; omega
  · exact .inr ⟨df (by omega), hid ⟨by unfold plc; rw [if_neg h1], h1⟩⟩

theorem rank_ways (b : Nat) (hb : b < 18446744073709551616) :
    ((Go.FloatKind.f64.format.order b b != some Ordering.eq) = true ∧ Hid ((9223372036854775807 : Int) = rnk b)) ∨
    ((Go.FloatKind.f64.format.order b b != some Ordering.eq) = false ∧ Go.IntKind.i64.wrap ((plc b : Nat) : Int) = rnk b) := by
  rw [ne_self hb]
  cases h : nan b
  · refine .inr ⟨rfl, ?_⟩
    have e1 : rnk b = if 9223372036854775808 ≤ b then 9223372036854775807 - (b : Int) else b := by unfold rnk; rw [h, if_neg (by decide)]
    have e2 : plc b = if 9223372036854775808 ≤ b then 27670116110564327423 - b else b := rfl
    rw [e1, e2]
    simp only [Go.IntKind.wrap, Go.IntKind.bits, Go.IntKind.signed]; simp
    by_cases h1 : 9223372036854775808 ≤ b
    · rw [if_pos h1, if_pos h1]; split <;> omega
    · rw [if_neg h1, if_neg h1]; split <;> omega
  · exact .inl ⟨rfl, hid (by unfold rnk; rw [if_pos h])⟩

theorem rnk_bd {b : Nat} (hb : b < 18446744073709551616) : -9223372036854775808 ≤ rnk b ∧ rnk b ≤ 9223372036854775807 := by
  unfold rnk; split
  · omega
  · simp only [SG]; split <;> omega

theorem order_ways (x y : Int) :
    (x < y ∧ decide (x < y) = true ∧ Hid (-1 = ordr x y)) ∨ (y < x ∧ decide (x < y) = false ∧ decide (y < x) = true ∧ Hid (1 = ordr x y)) ∨ (decide (x < y) = false ∧ decide (y < x) = false ∧ Hid (0 = ordr x y)) := by
  rcases Int.lt_trichotomy x y with h | h | h
  · exact .inl ⟨h, dt h, hid (by unfold ordr; rw [if_pos h])⟩
  · exact .inr (.inr ⟨df (by omega), df (by omega), hid (by unfold ordr; rw [if_neg (by omega), if_neg (by omega)])⟩)
  · exact .inr (.inl ⟨h, df (by omega), dt h, hid (by unfold ordr; rw [if_neg (by omega), if_pos h])⟩)

theorem cls_iff {b : Nat} {n : Int} (h : (b % 9223372036854775808 = 0 ∧ n = 0) ∨ (0 < b % 9223372036854775808 ∧ b % 9223372036854775808 < 4503599627370496 ∧ n = 1) ∨ (4503599627370496 ≤ b % 9223372036854775808 ∧ b % 9223372036854775808 < 9218868437227405312 ∧ n = 2) ∨ (b % 9223372036854775808 = 9218868437227405312 ∧ n = 3) ∨ (9218868437227405312 < b % 9223372036854775808 ∧ n = 4)) : n = ((cls b : Nat) : Int) := by
  unfold cls
  simp only [SG, ON, INF]
  repeat' (split; · omega)
  omega

/-- The names of a word's parts. -/
theorem names (b : Nat) (hb : b < 18446744073709551616) : ∃ c f p : Nat,
    (b : Int).tmod 9223372036854775808 = c ∧ (b : Int).tmod 4503599627370496 = f ∧ (c : Int) / 4503599627370496 = p ∧ (c : Int).tmod 4503599627370496 = f ∧ c < 9223372036854775808 ∧ f < 4503599627370496 ∧ p < 2048 ∧
    Hid (c = b % 9223372036854775808 ∧ f = b % 4503599627370496 ∧ p = c / 4503599627370496) := by
  refine ⟨b % 9223372036854775808, b % 4503599627370496, b % 9223372036854775808 / 4503599627370496, ?_, ?_, ?_, ?_, ?_, ?_, ?_, hid ⟨rfl, rfl, rfl⟩⟩
  · rw [Int.tmod_eq_emod_of_nonneg (by omega)]; omega
  · rw [Int.tmod_eq_emod_of_nonneg (by omega)]; omega
  · omega
  · rw [Int.tmod_eq_emod_of_nonneg (by omega)]; omega
  all_goals omega

theorem of_ways {b c p : Nat} (hc : c = b % 9223372036854775808) (hp : p = c / 4503599627370496) :
    (((c : Int) == 0) = true ∧ Hid ((0 : Int) = (cls b : Nat))) ∨
    (((c : Int) == 0) = false ∧ ((p : Int) == 0) = true ∧ Hid ((1 : Int) = (cls b : Nat))) ∨
    (((c : Int) == 0) = false ∧ ((p : Int) == 0) = false ∧ ((c : Int) == 9218868437227405312) = true ∧ Hid ((3 : Int) = (cls b : Nat))) ∨
    (((c : Int) == 0) = false ∧ ((p : Int) == 0) = false ∧ ((c : Int) == 9218868437227405312) = false ∧ ((p : Int) == 2047) = true ∧ Hid ((4 : Int) = (cls b : Nat))) ∨
    (((c : Int) == 0) = false ∧ ((p : Int) == 0) = false ∧ ((c : Int) == 9218868437227405312) = false ∧ ((p : Int) == 2047) = false ∧ Hid ((2 : Int) = (cls b : Nat))) := by
  have h : c = 0 ∨ (0 < c ∧ c < 4503599627370496) ∨ (4503599627370496 ≤ c ∧ c < 9218868437227405312) ∨ c = 9218868437227405312 ∨ 9218868437227405312 < c := by omega
  rcases h with h | h | h | h | h
  · exact .inl ⟨bt (by omega), hid (cls_iff (by omega))⟩
  · exact .inr (.inl ⟨bf (by omega), bt (by omega), hid (cls_iff (by omega))⟩)
  · exact .inr (.inr (.inr (.inr ⟨bf (by omega), bf (by omega), bf (by omega), bf (by omega), hid (cls_iff (by omega))⟩)))
  · exact .inr (.inr (.inl ⟨bf (by omega), bf (by omega), bt (by omega), hid (cls_iff (by omega))⟩))
  · exact .inr (.inr (.inr (.inl ⟨bf (by omega), bf (by omega), bf (by omega), bt (by omega), hid (cls_iff (by omega))⟩)))

theorem class_ways {b c : Nat} (hc : c = b % 9223372036854775808) :
    (((c : Int) == 0) = true ∧ Hid ((0 : Int) = (cls b : Nat))) ∨
    (((c : Int) == 0) = false ∧ decide ((c : Int) < 4503599627370496) = true ∧ Hid ((1 : Int) = (cls b : Nat))) ∨
    (((c : Int) == 0) = false ∧ decide ((c : Int) < 4503599627370496) = false ∧ decide ((c : Int) < 9218868437227405312) = true ∧ Hid ((2 : Int) = (cls b : Nat))) ∨
    (((c : Int) == 0) = false ∧ decide ((c : Int) < 4503599627370496) = false ∧ decide ((c : Int) < 9218868437227405312) = false ∧ ((c : Int) == 9218868437227405312) = true ∧ Hid ((3 : Int) = (cls b : Nat))) ∨
    (((c : Int) == 0) = false ∧ decide ((c : Int) < 4503599627370496) = false ∧ decide ((c : Int) < 9218868437227405312) = false ∧ ((c : Int) == 9218868437227405312) = false ∧ Hid ((4 : Int) = (cls b : Nat))) := by
  have h : c = 0 ∨ (0 < c ∧ c < 4503599627370496) ∨ (4503599627370496 ≤ c ∧ c < 9218868437227405312) ∨ c = 9218868437227405312 ∨ 9218868437227405312 < c := by omega
  rcases h with h | h | h | h | h
  · exact .inl ⟨bt (by omega), hid (cls_iff (by omega))⟩
  · exact .inr (.inl ⟨bf (by omega), dt (by omega), hid (cls_iff (by omega))⟩)
  · exact .inr (.inr (.inl ⟨bf (by omega), df (by omega), dt (by omega), hid (cls_iff (by omega))⟩))
  · exact .inr (.inr (.inr (.inl ⟨bf (by omega), df (by omega), df (by omega), bt (by omega), hid (cls_iff (by omega))⟩)))
  · exact .inr (.inr (.inr (.inr ⟨bf (by omega), df (by omega), df (by omega), bf (by omega), hid (cls_iff (by omega))⟩)))

/-- Split's ways: no number; a subnormal one or nought; a normal one. -/
theorem split_ways {b c f p : Nat} (hc : c = b % 9223372036854775808) (hf : f = b % 4503599627370496) (hp : p = c / 4503599627370496) :
    (decide ((3 : Int) ≤ (cls b : Nat)) = true ∧ Hid (3 ≤ cls b)) ∨
    (decide ((3 : Int) ≤ (cls b : Nat)) = false ∧ decide ((0 : Int) < (p : Int)) = false ∧ ((p : Int) == 0) = true ∧ p ≤ 0 ∧ Hid (cls b < 3 ∧ (f : Int) = (spm b : Nat) ∧ (p : Int) + -1074 = spe b ∧ (-1074) = spe b)) ∨
    (decide ((3 : Int) ≤ (cls b : Nat)) = false ∧ decide ((0 : Int) < (p : Int)) = true ∧ ((p : Int) == 0) = false ∧ 0 < p ∧ Hid (cls b < 3 ∧ (f : Int) + 4503599627370496 = (spm b : Nat) ∧ (p : Int) - 1 + -1074 = spe b ∧ (p : Int) - 1075 = spe b)) := by
  have k : cls b < 3 ↔ b % 9223372036854775808 < 9218868437227405312 := by
    unfold cls; simp only [SG, ON, INF]; repeat' (split; · omega)
    omega
  by_cases h1 : 9218868437227405312 ≤ c
  · exact .inl ⟨dt (by omega), hid (by omega)⟩
  · by_cases h2 : c < 4503599627370496
    · refine .inr (.inl ⟨df (by omega), df (by omega), bt (by omega), by omega, hid ⟨by omega, ?_, ?_, ?_⟩⟩)
      · unfold spm; simp only [SG, ON]; rw [if_pos (by omega)]; omega
      · unfold spe; simp only [SG, ON]; rw [if_pos (by omega)]; omega
      · unfold spe; simp only [SG, ON]; rw [if_pos (by omega)]
    · refine .inr (.inr ⟨df (by omega), dt (by omega), bf (by omega), by omega, hid ⟨by omega, ?_, ?_, ?_⟩⟩)
      · unfold spm; simp only [SG, ON]; rw [if_neg (by omega)]; omega
      · unfold spe; simp only [SG, ON]; rw [if_neg (by omega)]; omega
      · unfold spe; simp only [SG, ON]; rw [if_neg (by omega)]; omega


theorem index_ways (b : Nat) (_hb : b < 18446744073709551616) (c : Nat) (hc : c = b % 9223372036854775808) :
    ((((cls b : Nat) : Int) == 4) = true ∧ Hid ((18437736874454810627 : Int) = (idx b : Nat))) ∨
    ((((cls b : Nat) : Int) == 4) = false ∧ decide ((9223372036854775808 : Int) ≤ b) = true ∧ c ≤ 9218868437227405312 ∧ Hid ((9218868437227405312 : Int) - c = (idx b : Nat))) ∨
    ((((cls b : Nat) : Int) == 4) = false ∧ decide ((9223372036854775808 : Int) ≤ b) = false ∧ b ≤ 9218868437227405312 ∧ Hid ((9218868437227405313 : Int) + b = (idx b : Nat))) := by
  have k := cls_nan (b := b)
  cases h : nan b
  · have k1 : cls b ≠ 4 := fun e => by rw [k.1 e] at h; cases h
    have h2 : b % 9223372036854775808 ≤ 9218868437227405312 := by unfold nan at h; simp [INF, SG] at h; omega
    by_cases h1 : 9223372036854775808 ≤ b
    · refine .inr (.inl ⟨bf (by omega), dt (by omega), by omega, hid ?_⟩)
      unfold idx; rw [h, if_neg (by decide)]; simp only [SG, INF]; rw [if_pos h1]; omega
    · refine .inr (.inr ⟨bf (by omega), df (by omega), by omega, hid ?_⟩)
      unfold idx; rw [h, if_neg (by decide)]; simp only [SG, INF]; rw [if_neg h1]; omega
  · exact .inl ⟨bt (by have := k.2 h; omega), hid (by unfold idx; rw [if_pos h]; rfl)⟩

theorem refat_ways (i : Nat) (_h : i ≤ 18437736874454810625) :
    (decide ((i : Int) ≤ 9218868437227405312) = true ∧ i ≤ 9218868437227405312 ∧ Hid (9218868437227405312 - i + 9223372036854775808 = ati i)) ∨
    (decide ((i : Int) ≤ 9218868437227405312) = false ∧ 9218868437227405313 ≤ i ∧ Hid (i - 9218868437227405312 - 1 = ati i)) := by
  by_cases h1 : i ≤ 9218868437227405312
  · exact .inl ⟨dt (by omega), h1, hid (by unfold ati; simp only [INF, SG]; rw [if_pos h1])⟩
  · exact .inr ⟨df (by omega), by omega, hid (by unfold ati; simp only [INF, SG]; rw [if_neg h1])⟩


theorem order_waysN (x y : Nat) :
    (x < y ∧ decide (x < y) = true ∧ Hid (-1 = ordr x y)) ∨ (y < x ∧ decide (x < y) = false ∧ decide (y < x) = true ∧ Hid (1 = ordr x y)) ∨ (decide (x < y) = false ∧ decide (y < x) = false ∧ Hid (0 = ordr x y)) := by
  rcases Nat.lt_trichotomy x y with h | h | h
  · exact .inl ⟨h, dt h, hid (by unfold ordr; rw [if_pos (by omega)])⟩
  · exact .inr (.inr ⟨df (by omega), df (by omega), hid (by unfold ordr; rw [if_neg (by omega), if_neg (by omega)])⟩)
  · exact .inr (.inl ⟨h, df (by omega), dt h, hid (by unfold ordr; rw [if_neg (by omega), if_pos (by omega)])⟩)

/-- Flush's ways. -/
theorem flush_ways (b : Nat) :
    ((((cls b : Nat) : Int) == 1) = true ∧ Hid (flu b = sgw b)) ∨ ((((cls b : Nat) : Int) == 1) = false ∧ Hid (b = flu b)) := by
  by_cases h : cls b = 1
  · exact .inl ⟨bt (by omega), hid (by unfold flu; rw [if_pos h])⟩
  · exact .inr ⟨bf (by omega), hid (by unfold flu; rw [if_neg h])⟩

/-- Copysign. -/
def cps (x y : Nat) : Nat := x % SG + y / SG * SG
theorem cps_lt {x y : Nat} (hy : y < 18446744073709551616) : cps x y < 18446744073709551616 := by unfold cps; simp only [SG]; omega

/-- Is it the infinity of this sign? -/
theorem inf_gt {b : Nat} (hb : b < 18446744073709551616) : (Go.FloatKind.f64.format.order b 9218868437227405311 == some Ordering.gt) = decide (b = INF) := by
  show (Ieee.double.order b 9218868437227405311 == some Ordering.gt) = decide (b = INF)
  rw [order_eq hb (by decide)]
  by_cases h : nan b = true
  · have : b ≠ INF := by intro e; rw [e] at h; revert h; decide
    simp [h, this]
  · have h' : nan b = false := by simpa using h
    have e1 : nan 9218868437227405311 = false := by decide
    have h2 : b % 9223372036854775808 ≤ 9218868437227405312 := by unfold nan at h'; simp [INF, SG] at h'; omega
    rw [h', e1]
    have e2 : rk 9218868437227405311 = 9218868437227405311 := by decide
    rw [e2]
    simp only [Bool.or_self, Bool.false_eq_true, if_false]
    rw [Bool.eq_iff_iff]
    simp only [decide_eq_true_eq, beq_iff_eq, Option.some.injEq]
    have e3 : rk b = if 9223372036854775808 ≤ b then -((b - 9223372036854775808 : Nat) : Int) else b := rfl
    rw [cmp_int]
    constructor
    · intro h3
      split at h3
      · cases h3
      · split at h3
        · cases h3
        · rw [e3] at *; simp only [INF]; split at * <;> omega
    · intro h3
      rw [e3, h3, if_neg (by decide)]; decide


/-- The laws' own 'bits': one pattern, or two NaNs. -/
def eqv (a b : Nat) : Bool := decide (a = b) || (nan a && nan b)
theorem eqv_refl (a : Nat) : eqv a a = true := by simp [eqv]
theorem eqv_nan {a b : Nat} (h1 : nan a = true) (h2 : nan b = true) : eqv a b = true := by simp [eqv, h1, h2]

theorem eqv_ways (a b : Nat) (ha : a < 18446744073709551616) (hb : b < 18446744073709551616) :
    (((a : Int) == (b : Int)) = true ∧ Hid (true = eqv a b)) ∨
    (((a : Int) == (b : Int)) = false ∧ (Go.FloatKind.f64.format.order a a != some Ordering.eq) = false ∧ Hid (false = eqv a b)) ∨
    (((a : Int) == (b : Int)) = false ∧ (Go.FloatKind.f64.format.order a a != some Ordering.eq) = true ∧ (Go.FloatKind.f64.format.order b b != some Ordering.eq) = nan b ∧ Hid (nan b = eqv a b)) := by
  by_cases h : a = b
  · exact .inl ⟨bt (by omega), hid (by simp [eqv, h])⟩
  · cases h1 : nan a
    · exact .inr (.inl ⟨bf (by omega), by rw [ne_self ha, h1], hid (by simp [eqv, h, h1])⟩)
    · exact .inr (.inr ⟨bf (by omega), by rw [ne_self ha, h1], ne_self hb, hid (by simp [eqv, h, h1])⟩)

/-- Next and Prev. -/
def nxt (b : Nat) : Nat := if nan b || decide (b = INF) then b else plc ((plc b + 1) % 18446744073709551616)
def prv (b : Nat) : Nat := if nan b || decide (ng b = INF) then b else plc ((plc b + 18446744073709551615) % 18446744073709551616)
def dnx (b : Nat) : Nat := if nan b then b else ati (min (idx b + 1) 18437736874454810625)
def dpr (b : Nat) : Nat := if nan b || decide (idx b = 0) then b else ati (idx b - 1)

theorem next_ways (b : Nat) (hb : b < 18446744073709551616) :
    ((Go.FloatKind.f64.format.order b b != some Ordering.eq) = true ∧ Hid (b = nxt b)) ∨
    ((Go.FloatKind.f64.format.order b b != some Ordering.eq) = false ∧ decide (b = INF) = true ∧ Hid (b = nxt b)) ∨
    (∃ q : Nat, (Go.FloatKind.f64.format.order b b != some Ordering.eq) = false ∧ decide (b = INF) = false ∧ Go.IntKind.u64.wrap (((plc b : Nat) : Int) + 1) = q ∧ q < 18446744073709551616 ∧ Hid (plc q = nxt b)) := by
  rw [ne_self hb]
  cases h : nan b
  · by_cases h1 : b = INF
    · exact .inr (.inl ⟨rfl, dt h1, hid (by unfold nxt; rw [h, dt h1]; exact (if_pos rfl).symm)⟩)
    · refine .inr (.inr ⟨(plc b + 1) % 18446744073709551616, rfl, df h1, ?_, by omega, hid (by unfold nxt; rw [h, df h1]; exact (if_neg (by decide)).symm)⟩)
      simp only [Go.IntKind.wrap, Go.IntKind.bits, Go.IntKind.signed]; simp
  · exact .inl ⟨rfl, hid (by unfold nxt; rw [h]; exact (if_pos rfl).symm)⟩

theorem prev_ways (b : Nat) (hb : b < 18446744073709551616) :
    ((Go.FloatKind.f64.format.order b b != some Ordering.eq) = true ∧ Hid (b = prv b)) ∨
    ((Go.FloatKind.f64.format.order b b != some Ordering.eq) = false ∧ decide (ng b = INF) = true ∧ Hid (b = prv b)) ∨
    (∃ q : Nat, (Go.FloatKind.f64.format.order b b != some Ordering.eq) = false ∧ decide (ng b = INF) = false ∧ Go.IntKind.u64.wrap (((plc b : Nat) : Int) - 1) = q ∧ q < 18446744073709551616 ∧ Hid (plc q = prv b)) := by
  rw [ne_self hb]
  cases h : nan b
  · by_cases h1 : ng b = INF
    · exact .inr (.inl ⟨rfl, dt h1, hid (by unfold prv; rw [h, dt h1]; exact (if_pos rfl).symm)⟩)
    · refine .inr (.inr ⟨(plc b + 18446744073709551615) % 18446744073709551616, rfl, df h1, ?_, by omega, hid (by unfold prv; rw [h, df h1]; exact (if_neg (by decide)).symm)⟩)
      have := plc_lt hb
      simp only [Go.IntKind.wrap, Go.IntKind.bits, Go.IntKind.signed]; simp; omega
  · exact .inl ⟨rfl, hid (by unfold prv; rw [h]; exact (if_pos rfl).symm)⟩

theorem dnx_ways (b : Nat) (hb : b < 18446744073709551616) :
    ((((cls b : Nat) : Int) == 4) = true ∧ Hid (b = dnx b)) ∨
    ((((cls b : Nat) : Int) == 4) = false ∧ idx b ≤ 18437736874454810624 ∧ Hid (ati (idx b + 1) = dnx b)) ∨
    ((((cls b : Nat) : Int) == 4) = false ∧ 18437736874454810625 ≤ idx b ∧ idx b ≤ 18437736874454810625 ∧ Hid (ati 18437736874454810625 = dnx b)) := by
  have k := cls_nan (b := b)
  cases h : nan b
  · have k1 : cls b ≠ 4 := fun e => by rw [k.1 e] at h; cases h
    have h2 : idx b ≤ 18437736874454810625 := by
      unfold idx; rw [h, if_neg (by decide)]; unfold nan at h; simp [INF, SG] at h
      simp only [SG, INF]; split <;> omega
    by_cases h1 : idx b ≤ 18437736874454810624
    · exact .inr (.inl ⟨bf (by omega), h1, hid (by unfold dnx; rw [h, if_neg (by decide), Nat.min_eq_left (by omega)])⟩)
    · exact .inr (.inr ⟨bf (by omega), by omega, h2, hid (by unfold dnx; rw [h, if_neg (by decide), Nat.min_eq_right (by omega)])⟩)
  · exact .inl ⟨bt (by have := k.2 h; omega), hid (by unfold dnx; rw [if_pos h])⟩

theorem dpr_ways (b : Nat) (hb : b < 18446744073709551616) :
    ((((cls b : Nat) : Int) == 4) = true ∧ Hid (b = dpr b)) ∨
    ((((cls b : Nat) : Int) == 4) = false ∧ (((idx b : Nat) : Int) == 0) = true ∧ Hid (b = dpr b)) ∨
    ((((cls b : Nat) : Int) == 4) = false ∧ (((idx b : Nat) : Int) == 0) = false ∧ 1 ≤ idx b ∧ idx b ≤ 18437736874454810625 ∧ Hid (ati (idx b - 1) = dpr b)) := by
  have k := cls_nan (b := b)
  cases h : nan b
  · have k1 : cls b ≠ 4 := fun e => by rw [k.1 e] at h; cases h
    have h2 : idx b ≤ 18437736874454810625 := by
      unfold idx; rw [h, if_neg (by decide)]; unfold nan at h; simp [INF, SG] at h
      simp only [SG, INF]; split <;> omega
    by_cases h1 : idx b = 0
    · exact .inr (.inl ⟨bf (by omega), bt (by omega), hid (by unfold dpr; rw [h, dt h1]; exact (if_pos rfl).symm)⟩)
    · exact .inr (.inr ⟨bf (by omega), bf (by omega), by omega, h2, hid (by unfold dpr; rw [h, df h1]; exact (if_neg (by decide)).symm)⟩)
  · exact .inl ⟨bt (by have := k.2 h; omega), hid (by unfold dpr; rw [h]; exact (if_pos rfl).symm)⟩

/-- Ulps. -/
def ulp (a b : Nat) : Nat := if 0 < ordr (rnk a) (rnk b) then (plc a + 18446744073709551616 - plc b) % 18446744073709551616 else (plc b + 18446744073709551616 - plc a) % 18446744073709551616
def ulpV (a b : Nat) : Go.Value := if nan a || nan b then .tuple #[.int .u64 0, .int .i64 5] else .tuple #[.int .u64 (ulp a b : Nat), .int .i64 0]
theorem ulpV_1 {a b : Nat} (h : nan a = true ∨ (nan a = false ∧ nan b = true)) : ulpV a b = .tuple #[.int .u64 0, .int .i64 5] := by
  unfold ulpV; rw [if_pos]; rcases h with h | h <;> simp [h]
theorem ulpV_0 {a b : Nat} (h : nan a = false ∧ nan b = false) : ulpV a b = .tuple #[.int .u64 (ulp a b : Nat), .int .i64 0] := by
  unfold ulpV; rw [if_neg]; simp [h]
/-- The reference's. -/
def dul (a b : Nat) : Nat := max (idx a) (idx b) - min (idx a) (idx b)
def dulV (a b : Nat) : Go.Value := if nan a || nan b then .tuple #[.int .u64 0, .int .i64 5] else .tuple #[.int .u64 (dul a b : Nat), .int .i64 0]
theorem dulV_1 {a b : Nat} (h : nan a = true ∨ (nan a = false ∧ nan b = true)) : dulV a b = .tuple #[.int .u64 0, .int .i64 5] := by
  unfold dulV; rw [if_pos]; rcases h with h | h <;> simp [h]
theorem dulV_0 {a b : Nat} (h : nan a = false ∧ nan b = false) : dulV a b = .tuple #[.int .u64 (dul a b : Nat), .int .i64 0] := by
  unfold dulV; rw [if_neg]; simp [h]
theorem cls_ne {b : Nat} (h : nan b = false) : cls b ≠ 4 := fun e => by rw [cls_nan.1 e] at h; cases h
theorem dul_ways (a b : Nat) :
    ((((cls a : Nat) : Int) == 4) = true ∧ Hid (nan a = true)) ∨
    ((((cls a : Nat) : Int) == 4) = false ∧ (((cls b : Nat) : Int) == 4) = true ∧ Hid (nan a = false ∧ nan b = true)) ∨
    ((((cls a : Nat) : Int) == 4) = false ∧ (((cls b : Nat) : Int) == 4) = false ∧ idx a < idx b ∧ Hid (((idx b : Nat) : Int) - (idx a : Nat) = (dul a b : Nat) ∧ nan a = false ∧ nan b = false)) ∨
    ((((cls a : Nat) : Int) == 4) = false ∧ (((cls b : Nat) : Int) == 4) = false ∧ idx b < idx a ∧ Hid (((idx a : Nat) : Int) - (idx b : Nat) = (dul a b : Nat) ∧ nan a = false ∧ nan b = false)) ∨
    ((((cls a : Nat) : Int) == 4) = false ∧ (((cls b : Nat) : Int) == 4) = false ∧ ¬ idx a < idx b ∧ ¬ idx b < idx a ∧ Hid ((0 : Int) = (dul a b : Nat) ∧ nan a = false ∧ nan b = false)) := by
  cases h : nan a
  · cases h1 : nan b
    · by_cases h2 : idx a < idx b
      · refine .inr (.inr (.inl ⟨bf (by have := cls_ne h; omega), bf (by have := cls_ne h1; omega), h2, hid ⟨by unfold dul; omega, rfl, rfl⟩⟩))
      · by_cases h3 : idx b < idx a
        · refine .inr (.inr (.inr (.inl ⟨bf (by have := cls_ne h; omega), bf (by have := cls_ne h1; omega), h3, hid ⟨by unfold dul; omega, rfl, rfl⟩⟩)))
        · refine .inr (.inr (.inr (.inr ⟨bf (by have := cls_ne h; omega), bf (by have := cls_ne h1; omega), h2, h3, hid ⟨by unfold dul; omega, rfl, rfl⟩⟩)))
    · exact .inr (.inl ⟨bf (by have := cls_ne h; omega), bt (by have := cls_nan.2 h1; omega), hid ⟨rfl, rfl⟩⟩)
  · exact .inl ⟨bt (by have := cls_nan.2 h; omega), hid rfl⟩
theorem ulps_ways (a b : Nat) (ha : a < 18446744073709551616) (hb : b < 18446744073709551616) :
    ((Go.FloatKind.f64.format.order a a != some Ordering.eq) = true ∧ Hid (nan a = true)) ∨
    ((Go.FloatKind.f64.format.order a a != some Ordering.eq) = false ∧ (Go.FloatKind.f64.format.order b b != some Ordering.eq) = true ∧ Hid (nan a = false ∧ nan b = true)) ∨
    ((Go.FloatKind.f64.format.order a a != some Ordering.eq) = false ∧ (Go.FloatKind.f64.format.order b b != some Ordering.eq) = false ∧ decide (0 < ordr (rnk a) (rnk b)) = true ∧ Go.IntKind.u64.wrap (((plc a : Nat) : Int) - (plc b : Nat)) = (ulp a b : Nat) ∧ Hid (nan a = false ∧ nan b = false)) ∨
    ((Go.FloatKind.f64.format.order a a != some Ordering.eq) = false ∧ (Go.FloatKind.f64.format.order b b != some Ordering.eq) = false ∧ decide (0 < ordr (rnk a) (rnk b)) = false ∧ Go.IntKind.u64.wrap (((plc b : Nat) : Int) - (plc a : Nat)) = (ulp a b : Nat) ∧ Hid (nan a = false ∧ nan b = false)) := by
  rw [ne_self ha, ne_self hb]
  have pa := plc_lt ha
  have pb := plc_lt hb
  cases h : nan a
  · cases h1 : nan b
    · by_cases h2 : 0 < ordr (rnk a) (rnk b)
      · refine .inr (.inr (.inl ⟨rfl, rfl, dt h2, ?_, hid ⟨rfl, rfl⟩⟩))
        unfold ulp; rw [if_pos h2]
        simp only [Go.IntKind.wrap, Go.IntKind.bits, Go.IntKind.signed]; simp; omega
      · refine .inr (.inr (.inr ⟨rfl, rfl, df h2, ?_, hid ⟨rfl, rfl⟩⟩))
        unfold ulp; rw [if_neg h2]
        simp only [Go.IntKind.wrap, Go.IntKind.bits, Go.IntKind.signed]; simp; omega
    · exact .inr (.inl ⟨rfl, rfl, hid ⟨rfl, rfl⟩⟩)
  · exact .inl ⟨rfl, hid rfl⟩

end Go.Proofs.YtnghppgpdeghfaaGreatDoor.Pt
