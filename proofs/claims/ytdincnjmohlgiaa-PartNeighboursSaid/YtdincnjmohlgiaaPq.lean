/- Plain laws of layer 1: between a number and its Next there is none (PartNeighbours); no Go in sight. -/
import Derived.Test.YtdincnjmohlgiaaPo
import Derived.Laws.FloatArith
namespace Go.Proofs.Ytdincnjmohlgiaa.Pt
open Go.Proofs.Ytdincnjmohlgiaa.Fl Go.Lib Go.RowKit

theorem nxt_num {b : Nat} (h : nan b = false) (h2 : b ≠ INF) : nxt b = plc ((plc b + 1) % 18446744073709551616) := by
  unfold nxt; rw [h]; simp only [h2, decide_false, Bool.or_self, Bool.false_eq_true, if_false]

/-- Next, by cases. -/
theorem nxt_cases {b : Nat} (hb : b < 18446744073709551616) (h : nan b = false) (h2 : b ≠ INF) :
    (b = 9223372036854775808 ∧ nxt b = 0) ∨ (9223372036854775808 < b ∧ nxt b = b - 1) ∨ (b < 9218868437227405312 ∧ nxt b = b + 1) := by
  have hn := nan_not.1 h
  rw [nxt_num h h2]
  simp only [INF] at h2
  by_cases c : 9223372036854775808 ≤ b
  · rw [plc_hi c]
    by_cases c2 : b = 9223372036854775808
    · refine .inl ⟨c2, ?_⟩
      have : (27670116110564327423 - b + 1) % 18446744073709551616 = 0 := by omega
      rw [this]; decide
    · refine .inr (.inl ⟨by omega, ?_⟩)
      have : (27670116110564327423 - b + 1) % 18446744073709551616 = 27670116110564327424 - b := by omega
      rw [this, plc_hi (by omega)]; omega
  · refine .inr (.inr ⟨by omega, ?_⟩)
    rw [plc_lo c]
    have : (b + 1) % 18446744073709551616 = b + 1 := by omega
    rw [this, plc_lo (by omega)]

theorem prv_num {b : Nat} (h : nan b = false) (h2 : ng b ≠ INF) : prv b = plc ((plc b + 18446744073709551615) % 18446744073709551616) := by
  unfold prv; rw [h]; simp only [h2, decide_false, Bool.or_self, Bool.false_eq_true, if_false]

theorem prv_cases {b : Nat} (hb : b < 18446744073709551616) (h : nan b = false) :
    (b = 18442240474082181120 ∧ prv b = b) ∨ (b = 0 ∧ prv b = 9223372036854775808) ∨ (9223372036854775808 ≤ b ∧ b < 18442240474082181120 ∧ prv b = b + 1) ∨ (0 < b ∧ b ≤ 9218868437227405312 ∧ prv b = b - 1) := by
  have hn := nan_not.1 h
  by_cases c0 : b = 18442240474082181120
  · subst c0; exact .inl ⟨rfl, by decide⟩
  · have h2 : ng b ≠ INF := by rw [ng_eq]; simp only [INF]; split <;> omega
    rw [prv_num h h2]
    by_cases c : 9223372036854775808 ≤ b
    · refine .inr (.inr (.inl ⟨c, by omega, ?_⟩))
      rw [plc_hi c]
      have : (27670116110564327423 - b + 18446744073709551615) % 18446744073709551616 = 27670116110564327422 - b := by omega
      rw [this, plc_hi (by omega)]; omega
    · by_cases c2 : b = 0
      · subst c2; exact .inr (.inl ⟨rfl, by decide⟩)
      · refine .inr (.inr (.inr ⟨by omega, by omega, ?_⟩))
        rw [plc_lo c]
        have : (b + 18446744073709551615) % 18446744073709551616 = b - 1 := by omega
        rw [this, plc_lo (by omega)]

theorem nan_ng {b : Nat} (hb : b < 18446744073709551616) : nan (ng b) = nan b := by unfold nan; rw [ng_rung hb]

/-- Minus turns all round. -/
theorem prv_ng {b : Nat} (hb : b < 18446744073709551616) (h : nan b = false) : prv (ng b) = ng (nxt b) := by
  have h1 : nan (ng b) = false := by rw [nan_ng hb]; exact h
  have hn := nan_not.1 h
  by_cases c : b = INF
  · subst c; decide
  · have q1 := nxt_cases hb h c
    have q2 := prv_cases (ng_lt hb) h1
    simp only [INF] at c
    have e := ng_eq (b := b)
    have e2 := ng_eq (b := nxt b)
    rcases q1 with ⟨p1, p2⟩ | ⟨p1, p2⟩ | ⟨p1, p2⟩
    · subst p1; decide
    · rw [if_pos (by omega)] at e
      rw [p2, if_pos (by omega)] at e2
      rw [p2, e2]
      rcases q2 with ⟨r1, r2⟩ | ⟨r1, r2⟩ | ⟨r1, r3, r2⟩ | ⟨r1, r3, r2⟩ <;> omega
    · rw [if_neg (by omega)] at e
      rw [p2, if_neg (by omega)] at e2
      rw [p2, e2]
      rcases q2 with ⟨r1, r2⟩ | ⟨r1, r2⟩ | ⟨r1, r3, r2⟩ | ⟨r1, r3, r2⟩ <;> omega

theorem nan_nxt {b : Nat} (hb : b < 18446744073709551616) (h : nan b = false) (c : b ≠ INF) : nan (nxt b) = false ∧ rnk (nxt b) = rnk b + 1 ∧ prv (nxt b) = b := by
  have hn := nan_not.1 h
  have r1 := rnk_num h
  rcases nxt_cases hb h c with ⟨p1, p2⟩ | ⟨p1, p2⟩ | ⟨p1, p2⟩
  · subst p1; rw [p2]; decide
  · have n2 : nan (nxt b) = false := nan_not.2 (by rw [p2]; omega)
    refine ⟨n2, ?_, ?_⟩
    · rw [rnk_num n2, r1, p2, if_pos (by omega), if_pos (by omega)]; omega
    · rcases prv_cases (nxt_lt hb) n2 with ⟨r1, r2⟩ | ⟨r1, r2⟩ | ⟨r1, r3, r2⟩ | ⟨r1, r3, r2⟩ <;> omega
  · have n2 : nan (nxt b) = false := nan_not.2 (by rw [p2]; omega)
    refine ⟨n2, ?_, ?_⟩
    · rw [rnk_num n2, r1, p2, if_neg (by omega), if_neg (by omega)]; omega
    · rcases prv_cases (nxt_lt hb) n2 with ⟨r1, r2⟩ | ⟨r1, r2⟩ | ⟨r1, r3, r2⟩ | ⟨r1, r3, r2⟩ <;> omega

/-- The step is one. -/
theorem ulpV_nxt {b : Nat} (hb : b < 18446744073709551616) (h : nan b = false) (c : b ≠ INF) : ulpV b (nxt b) = .tuple #[.int .u64 1, .int .i64 0] := by
  obtain ⟨n2, r2, _⟩ := nan_nxt hb h c
  rw [ulpV_0 ⟨h, n2⟩]
  have u := ulp_eq hb (nxt_lt hb) h n2
  rw [if_neg (by omega)] at u
  have : ulp b (nxt b) = 1 := by omega
  rw [this]; rfl

theorem lt_self {b : Nat} (hb : b < 18446744073709551616) (h : nan b = false) (c : b ≠ INF) : (Go.FloatKind.f64.format.order (nxt b) b == some Ordering.lt) = false := by
  obtain ⟨n2, r2, _⟩ := nan_nxt hb h c
  have e : Go.FloatKind.f64.format.order (nxt b) b = Ieee.double.order (nxt b) b := rfl
  rw [e, order_eq (nxt_lt hb) hb, n2, h]
  simp only [Bool.or_self, Bool.false_eq_true, if_false]
  rw [cmp_int]
  have hn := nan_not.1 h
  have k : ¬ rk (nxt b) < rk b := by
    have e1 : ∀ x, rk x = if 9223372036854775808 ≤ x then -((x - 9223372036854775808 : Nat) : Int) else x := fun x => rfl
    rw [e1, e1]
    rcases nxt_cases hb h c with ⟨p1, p2⟩ | ⟨p1, p2⟩ | ⟨p1, p2⟩
    · rw [p2, p1]; decide
    · rw [p2, if_pos (by omega), if_pos (by omega)]; omega
    · rw [p2, if_neg (by omega), if_neg (by omega)]; omega
  rw [if_neg k]
  split <;> rfl

/-! ### halves -/
theorem V_half {r : Nat} (h : 2 * ON ≤ r) : V r = 2 * V (r - ON) := by
  have e1 : (r - ON) / ON = r / ON - 1 := by
    have : r = ON * 1 + (r - ON) := by simp only [ON] at *; omega
    have e : r / ON = 1 + (r - ON) / ON := by conv => lhs; rw [this, Nat.mul_add_div (by decide)]
    rw [e, Nat.add_sub_cancel_left]
  have e2 : (r - ON) % ON = r % ON := by
    have : r = ON * 1 + (r - ON) := by simp only [ON] at *; omega
    conv => rhs; rw [this]
    rw [Nat.mul_add_mod]
  have e3 : 2 ≤ r / ON := by rw [Nat.le_div_iff_mul_le (by decide)]; exact h
  unfold V mg sh
  rw [if_neg (by simp only [ON] at *; omega), if_neg (by simp only [ON] at *; omega), e1, e2]
  obtain ⟨k, hk⟩ : ∃ k, r / ON = k + 2 := ⟨r / ON - 2, by omega⟩
  rw [hk]
  have e4 : k + 2 - 1 = k + 1 := rfl
  have e5 : k + 1 - 1 = k := rfl
  rw [e4, e5, Nat.pow_succ]
  generalize 2 ^ k = p
  rw [Nat.mul_comm p 2, ← Nat.mul_assoc, Nat.mul_comm _ 2, Nat.mul_assoc]

theorem half_word : fin 4602678819172646912 ∧ decide (SG ≤ 4602678819172646912) = false ∧ 4602678819172646912 % SG = 4602678819172646912 := ⟨⟨by decide, by decide⟩, by decide, by decide⟩

def HX : Nat := 1073
theorem V_halfword : V 4602678819172646912 = 2 ^ HX := by
  have h := @V_mk 1021 ON (Nat.le_refl _) (by decide)
  have e : 1021 * ON + ON = 4602678819172646912 := by decide
  rw [e] at h
  exact h.trans (pw 52 1021 HX ON (by decide) (by decide))

theorem abs_ky (b : Nat) : (ky b).natAbs = V (b % SG) := by unfold ky sg; split <;> simp

/-- Half of a number that is not too little. -/
theorem mul_half {b : Nat} (hf : fin b) (h : 2 * ON ≤ b % SG) : Ieee.double.mul b 4602678819172646912 = some (wd (decide (SG ≤ b)) (b % SG - ON)) := by
  rw [mul_fin hf half_word.1, half_word.2.1, Bool.xor_false, abs_ky, abs_ky, half_word.2.2, V_halfword, V_half h]
  have e : 2 * V (b % SG - ON) * 2 ^ HX = V (b % SG - ON) * 2 ^ (HX + 1) := by
    rw [Nat.pow_succ, Nat.mul_comm 2, Nat.mul_assoc, Nat.mul_comm 2]
  rw [e]
  have := RN_scale (V (b % SG - ON)) (HX + 1) 0
  have e2 : ((0 : Int) - ((HX + 1 : Nat) : Int)) = -1074 := by decide
  rw [e2] at this
  rw [this, RN_V _ (by have := hf.2; simp only [INF, ON] at *; omega)]

theorem sub_on {q : Nat} (h : 2 * ON ≤ q) : (q - ON) / ON = q / ON - 1 ∧ (q - ON) % ON = q % ON ∧ 2 ≤ q / ON ∧ ¬ q < ON ∧ ¬ q - ON < ON := by
  have e0 : q = ON * 1 + (q - ON) := by simp only [ON] at *; omega
  have e : q / ON = 1 + (q - ON) / ON := by conv => lhs; rw [e0, Nat.mul_add_div (by decide)]
  refine ⟨by rw [e, Nat.add_sub_cancel_left], ?_, ?_, ?_, ?_⟩
  · conv => rhs; rw [e0]
    rw [Nat.mul_add_mod]
  · rw [Nat.le_div_iff_mul_le (by decide)]; exact h
  · simp only [ON] at *; omega
  · simp only [ON] at *; omega

theorem log2_odd {M s : Nat} (h1 : 4503599627370496 ≤ M) (h2 : M < 9007199254740992) : ((2 * M + 1) * 2 ^ s).log2 = 53 + s := by
  rw [log2_mul_pow (by omega)]
  congr 1
  rw [Nat.log2_eq_iff (by omega)]
  have e1 : (2 : Nat) ^ 53 = 9007199254740992 := by decide
  have e2 : (2 : Nat) ^ (53 + 1) = 18014398509481984 := by decide
  rw [e1, e2]
  omega

theorem cut_odd (M s : Nat) : Ieee.Toward.even.cut false ((2 * M + 1) * 2 ^ s) (1 + s) = M ∨ Ieee.Toward.even.cut false ((2 * M + 1) * 2 ^ s) (1 + s) = M + 1 := by
  rw [cut_scale, cut_eq]
  have a3 : (2 * M + 1) / 2 ^ 1 = M := by omega
  rw [a3]
  split
  · right; rfl
  · left; rfl

/-- Halfway between two neighbours: one of them. -/
theorem RN_mid {q : Nat} (h : 2 * ON ≤ q) (hq : q + 1 < INF) : RN (V (q - ON) + V (q + 1 - ON)) 0 = q ∨ RN (V (q - ON) + V (q + 1 - ON)) 0 = q + 1 := by
  obtain ⟨d1, d2, d3, d4, d5⟩ := sub_on h
  have e0 : q + 1 - ON = (q - ON) + 1 := by simp only [ON] at *; omega
  have hs : sh q = sh (q - ON) + 1 := by unfold sh; rw [d1]; generalize q / ON = z at *; omega
  have hm : mg (q - ON) = mg q := by unfold mg; rw [if_neg d4, if_neg d5, d2]
  have hmb : 4503599627370496 ≤ mg q ∧ mg q < 9007199254740992 := by
    have := Nat.mod_lt q (show 0 < ON by decide)
    unfold mg; rw [if_neg d4]; simp only [ON] at *; omega
  have hr := V_rung q
  rw [hs] at hr
  have e1 := V_succ (q - ON)
  have hV : V (q - ON) = mg q * 2 ^ sh (q - ON) := by rw [← hm]; rfl
  generalize sh (q - ON) = s at *
  have hS : V (q - ON) + V (q + 1 - ON) = (2 * mg q + 1) * 2 ^ s := by
    rw [e0, ← e1, hV, Nat.add_mul, Nat.one_mul, Nat.mul_assoc 2]
    generalize mg q * 2 ^ s = z
    omega
  rw [hS]
  have hl := log2_odd (s := s) hmb.1 hmb.2
  have hb : bnd ((2 * mg q + 1) * 2 ^ s) 0 = s + 1 := by unfold bnd; rw [hl]; clear hr hq hS hl; omega
  have hnz : ¬ (2 * mg q + 1) * 2 ^ s = 0 := by
    have := Nat.two_pow_pos s
    exact Nat.mul_ne_zero (Nat.succ_ne_zero _) (by omega)
  have hc := cut_odd (mg q) s
  have hR : RN ((2 * mg q + 1) * 2 ^ s) 0 = min ((s + 1) * ON + Ieee.Toward.even.cut false ((2 * mg q + 1) * 2 ^ s) (1 + s)) INF := by
    unfold RN
    rw [if_neg hnz, hb]
    have a1 : ((0 : Int) - ((s + 1 : Nat) : Int)).toNat = 0 := by clear hr hq hS hl hb hc; omega
    have a2 : (((s + 1 : Nat) : Int) - 0).toNat = 1 + s := by clear hr hq hS hl hb hc; omega
    rw [a1, a2, Nat.pow_zero, Nat.mul_one]
  rw [hR]
  rcases hc with e | e
  · left; rw [e, hr]; exact Nat.min_eq_left (by omega)
  · right; rw [e, ← Nat.add_assoc, hr]; exact Nat.min_eq_left (by omega)

theorem cls_two {b : Nat} : cls b = 2 ↔ 4503599627370496 ≤ b % 9223372036854775808 ∧ b % 9223372036854775808 < 9218868437227405312 := by
  unfold cls; simp only [SG, ON, INF]
  repeat' (split; · omega)
  omega

theorem wd_self {b : Nat} (hb : b < 18446744073709551616) : wd (decide (SG ≤ b)) (b % SG) = b := by
  unfold wd; simp only [SG]
  by_cases c : 9223372036854775808 ≤ b
  · simp [c]; omega
  · simp [c]; omega

theorem sg_add (s : Bool) (a b : Nat) : sg s a + sg s b = sg s (a + b) := by unfold sg; cases s <;> simp <;> omega
theorem sg_abs (s : Bool) (a : Nat) : (sg s a).natAbs = a := by unfold sg; cases s <;> simp
theorem sg_neg (s : Bool) {a : Nat} (h : 0 < a) : sg s a ≠ 0 ∧ decide (sg s a < 0) = s := by unfold sg; cases s <;> simp <;> omega

/-- Half of a number and half of its neighbour: one of the two. -/
theorem mid_facts {b : Nat} (hb : b < 18446744073709551616) (h1 : cls b = 2) (h2 : cls (nxt b) = 2) (h3 : 103582791429521408 ≤ b % 9223372036854775808) :
    ∃ u v m : Nat, Go.floatBits .mul .f64 b 4602678819172646912 = some u ∧ Go.floatBits .mul .f64 (nxt b) 4602678819172646912 = some v ∧ Go.floatBits .add .f64 u v = some m ∧ (m = b ∨ m = nxt b) := by
  have c1 := cls_two.1 h1
  have c2 := cls_two.1 h2
  have hn : nan b = false := nan_not.2 (by omega)
  have hI : b ≠ INF := by simp only [INF]; omega
  have hy := nxt_lt hb
  obtain ⟨q, hq, hq2, hs⟩ : ∃ q : Nat, ((b % SG = q ∧ nxt b % SG = q + 1) ∨ (b % SG = q + 1 ∧ nxt b % SG = q)) ∧ (2 * ON ≤ q ∧ q + 1 < INF) ∧ decide (SG ≤ nxt b) = decide (SG ≤ b) := by
    simp only [SG, ON, INF]
    rcases nxt_cases hb hn hI with ⟨p1, p2⟩ | ⟨p1, p2⟩ | ⟨p1, p2⟩
    · exfalso; rw [p1] at h3; revert h3; decide
    · refine ⟨nxt b % 9223372036854775808, .inr ⟨by omega, rfl⟩, ⟨by omega, by omega⟩, by rw [decide_eq_decide]; omega⟩
    · refine ⟨b % 9223372036854775808, .inl ⟨rfl, by omega⟩, ⟨by omega, by omega⟩, by rw [decide_eq_decide]; omega⟩
  have fb : fin b := ⟨hb, by simp only [SG, INF]; omega⟩
  have fy : fin (nxt b) := ⟨hy, by simp only [SG, INF]; omega⟩
  have m1 := mul_half fb (by simp only [SG, ON]; omega)
  have m2 := mul_half fy (by rcases hq with ⟨_, e⟩ | ⟨_, e⟩ <;> rw [e]; exact Nat.le_succ_of_le hq2.1; exact hq2.1)
  rw [hs] at m2
  generalize hsg : decide (SG ≤ b) = s at *
  have r1 : b % SG - ON < INF := Nat.lt_of_le_of_lt (Nat.sub_le _ _) fb.2
  have r2 : nxt b % SG - ON < INF := Nat.lt_of_le_of_lt (Nat.sub_le _ _) fy.2
  have s1 : b % SG - ON < SG := Nat.lt_trans r1 (by decide)
  have s2 : nxt b % SG - ON < SG := Nat.lt_trans r2 (by decide)
  have ad := add_fin (fin_wd s r1) (fin_wd s r2)
  rw [ky_wd s s1, ky_wd s s2, sg_add, sg_abs] at ad
  have hsum : V (b % SG - ON) + V (nxt b % SG - ON) = V (q - ON) + V (q + 1 - ON) := by
    rcases hq with ⟨e1, e2⟩ | ⟨e1, e2⟩
    · rw [e1, e2]
    · rw [e1, e2, Nat.add_comm]
  rw [hsum] at ad
  have pos : 0 < V (q - ON) + V (q + 1 - ON) := by
    have := V_lt (a := 0) (b := q - ON) (Nat.sub_pos_of_lt (Nat.lt_of_lt_of_le (by decide) hq2.1))
    rw [V_zero] at this; omega
  obtain ⟨n1, n2⟩ := sg_neg s pos
  rw [if_neg n1, n2] at ad
  have mid := RN_mid hq2.1 hq2.2
  have wb := wd_self hb
  have wy := wd_self hy
  rw [hs] at wy
  rw [hsg] at wb
  refine ⟨_, _, _, m1, m2, ad, ?_⟩
  rcases hq with ⟨e1, e2⟩ | ⟨e1, e2⟩
  · rcases mid with e | e
    · left; rw [e, ← e1, wb]
    · right; rw [e, ← e2, wy]
  · rcases mid with e | e
    · right; rw [e, ← e2, wy]
    · left; rw [e, ← e1, wb]

theorem small_lt {a : Nat} (h : a < 9223372036854775808) (hn : a ≤ 9218868437227405312) : (Go.FloatKind.f64.format.order a 103582791429521408 == some Ordering.lt) = decide (a < 103582791429521408) := by
  have e : Go.FloatKind.f64.format.order a 103582791429521408 = Ieee.double.order a 103582791429521408 := rfl
  have n1 : nan a = false := nan_not.2 (by omega)
  have n2 : nan 103582791429521408 = false := by decide
  have e1 : rk a = a := by unfold rk; simp only [SG]; rw [if_neg (by omega)]
  have e2 : rk 103582791429521408 = 103582791429521408 := by decide
  rw [e, order_eq (by omega) (by decide), n1, n2, e2, e1]
  simp only [Bool.or_self, Bool.false_eq_true, if_false]
  rw [cmp_int, Bool.eq_iff_iff]
  simp only [beq_iff_eq, Option.some.injEq, decide_eq_true_eq]
  by_cases c : a < 103582791429521408
  · rw [if_pos (by omega)]; simp [c]
  · rw [if_neg (by omega)]
    split <;> simp [c]

theorem eq_self {b : Nat} (hb : b < 18446744073709551616) (h : nan b = false) : (Go.FloatKind.f64.format.order b b == some Ordering.eq) = true := by
  have e := ne_self hb
  rw [h] at e
  simpa using e

end Go.Proofs.Ytdincnjmohlgiaa.Pt
