/- What each operation on words comes to, near the exact result; in which binades it lies. -/
import Derived.Test.YtnmpofjegepmaaaR3
namespace Go.Proofs.Ytnmpofjegepmaaa.Mag
open Go.Proofs.Ytnmpofjegepmaaa.Fl
open Ieee

def UQ : Rat := ((2 ^ 1074 : Nat) : Rat)
theorem UQ_eq : ((2 ^ 1074 : Nat) : Rat) = UQ := by unfold UQ; rfl
theorem cast_pos {n : Nat} (h : 0 < n) : (0 : Rat) < (n : Rat) := by exact_mod_cast h
theorem pow_posQ (n : Nat) : (0 : Rat) < ((2 ^ n : Nat) : Rat) := cast_pos (Nat.two_pow_pos n)
theorem UQ_pos : 0 < UQ := pow_posQ 1074
/-- A word's magnitude. -/
def mv (r : Nat) : Rat := (Fl.V r : Rat) / UQ
theorem mv_U (r : Nat) : mv r * UQ = (Fl.V r : Rat) := by
  unfold mv; exact Rat.div_mul_cancel (by have := UQ_pos; grind)
theorem mv_nn (r : Nat) : 0 ≤ mv r := by
  have h := mv_U r
  have h1 : (0 : Rat) ≤ (Fl.V r : Rat) := by exact_mod_cast Nat.zero_le _
  rcases (Rat.le_total : 0 ≤ mv r ∨ mv r ≤ 0) with h2 | h2
  · exact h2
  · have := Rat.mul_le_mul_of_nonneg_right h2 (Rat.le_of_lt UQ_pos)
    have h3 := UQ_pos
    have h4 : mv r * UQ = 0 := by grind
    rcases Rat.mul_eq_zero.1 h4 with h5 | h5 <;> grind
theorem Ne.cancel {x y k c : Rat} (hc : 0 < c) (h : Ne (x * c) (y * c) k) : Ne x y k := by
  obtain ⟨h1, h2⟩ := h
  constructor
  · apply Rat.le_of_mul_le_mul_right (c := c) _ hc
    grind
  · apply Rat.le_of_mul_le_mul_right (c := c) _ hc
    grind
theorem Ne.of_nat {w m : Nat} (h1 : 2 ^ 53 * m ≤ 2 ^ 53 * w + m) (h2 : 2 ^ 53 * w ≤ 2 ^ 53 * m + m) : Ne (w : Rat) (m : Rat) 1 := by
  have e1 : (9007199254740992 : Rat) * (m : Rat) ≤ 9007199254740992 * (w : Rat) + (m : Rat) := by exact_mod_cast h1
  have e2 : (9007199254740992 : Rat) * (w : Rat) ≤ 9007199254740992 * (m : Rat) + (m : Rat) := by exact_mod_cast h2
  unfold Ne EP
  exact ⟨by grind, by grind⟩
theorem ON_pow : ON = 2 ^ 52 := by decide
theorem V_bin {a : Nat} (h : 1 ≤ a) : Fl.V (a * ON) = 2 ^ (51 + a) := by
  have h1 : a * ON = (a - 1) * ON + ON := by
    rw [← Nat.succ_mul]; congr 1; omega
  rw [h1, V_mk (Nat.le_refl _) (by rw [ON_pow]; decide), ON_pow, ← Nat.pow_add]; congr 1; omega
/-- Between two binades. -/
structure Win (r a b : Nat) : Prop where
  lo : a * ON ≤ r
  hi : r ≤ b * ON
theorem Win.vlo {r a b : Nat} (h : Win r a b) (ha : 1 ≤ a) : 2 ^ (51 + a) ≤ Fl.V r := by rw [← V_bin ha]; exact V_mono h.lo
theorem hi_V {r b : Nat} (h : r ≤ b * ON) (hb : 1 ≤ b) : Fl.V r ≤ 2 ^ (51 + b) := by rw [← V_bin hb]; exact V_mono h
theorem Win.more {r a b c d : Nat} (h : Win r a b) (h1 : c ≤ a) (h2 : b ≤ d) : Win r c d := ⟨Nat.le_trans (Nat.mul_le_mul_right _ h1) h.lo, Nat.le_trans h.hi (Nat.mul_le_mul_right _ h2)⟩

set_option exponentiation.threshold 4000 in
theorem mul_op {X Y a b c d : Nat} (hX : Win X a b) (hY : Win Y c d) (h1 : 1 ≤ a) (h1' : 1 ≤ c) (h2 : 1024 ≤ a + c) (h3 : b + d ≤ 2972) (hb : 1 ≤ b) (hd : 1 ≤ d) :
    RN (Fl.V X * Fl.V Y) (-((1074 : Nat) : Int)) < INF ∧ Win (RN (Fl.V X * Fl.V Y) (-((1074 : Nat) : Int))) (a + c - 1023) (b + d - 1023) ∧ Ne (mv (RN (Fl.V X * Fl.V Y) (-((1074 : Nat) : Int)))) (mv X * mv Y) 1 := by
  have l1 : 2 ^ (51 + a) * 2 ^ (51 + c) ≤ Fl.V X * Fl.V Y := Nat.mul_le_mul (hX.vlo h1) (hY.vlo h1')
  have l2 : Fl.V X * Fl.V Y ≤ 2 ^ (51 + b) * 2 ^ (51 + d) := Nat.mul_le_mul (hi_V hX.hi hb) (hi_V hY.hi hd)
  rw [← Nat.pow_add] at l1 l2
  have hbd : a ≤ b := Nat.le_of_mul_le_mul_right (Nat.le_trans hX.lo hX.hi) (by rw [ON_pow]; decide)
  have hcd : c ≤ d := Nat.le_of_mul_le_mul_right (Nat.le_trans hY.lo hY.hi) (by rw [ON_pow]; decide)
  have hf : RN (Fl.V X * Fl.V Y) (-((1074 : Nat) : Int)) < INF := by
    refine RN_fin (E := b + d + 102 - 1074) (by omega) ?_
    rw [← Nat.pow_add, show b + d + 102 - 1074 + 1074 = 51 + b + (51 + d) by omega]
    exact l2
  refine ⟨hf, ⟨?_, ?_⟩, ?_⟩
  · refine RN_ge ?_ hf
    rw [V_bin (by omega), ← Nat.pow_add, show 51 + (a + c - 1023) + 1074 = 51 + a + (51 + c) by omega]
    exact l1
  · refine RN_low ?_ hf
    rw [V_bin (by omega), ← Nat.pow_add, show 51 + (b + d - 1023) + 1074 = 51 + b + (51 + d) by omega]
    exact l2
  · have he : 2 ^ 52 * 2 ^ 1074 ≤ Fl.V X * Fl.V Y := by
      refine Nat.le_trans ?_ l1
      rw [← Nat.pow_add]
      exact Nat.pow_le_pow_right (by decide) (by omega)
    obtain ⟨e1, e2⟩ := RN_err he hf
    generalize RN (Fl.V X * Fl.V Y) (-((1074 : Nat) : Int)) = r at *
    have n1 := Ne.of_nat e1 e2
    have c1 : ((Fl.V r * 2 ^ 1074 : Nat) : Rat) = mv r * (UQ * UQ) := by rw [Rat.natCast_mul, UQ_eq, ← mv_U]; grind
    have c2 : ((Fl.V X * Fl.V Y : Nat) : Rat) = mv X * mv Y * (UQ * UQ) := by rw [Rat.natCast_mul, ← mv_U, ← mv_U]; grind
    rw [c1, c2] at n1
    exact Ne.cancel (Rat.mul_pos UQ_pos UQ_pos) n1
theorem add_op {X Y b : Nat} (hX : X ≤ b * ON) (hY : Y ≤ b * ON) (hb : 1 ≤ b) (hb2 : b ≤ 1900) :
    RN (Fl.V X + Fl.V Y) (-((0 : Nat) : Int)) < INF ∧ X ≤ RN (Fl.V X + Fl.V Y) (-((0 : Nat) : Int)) ∧ Y ≤ RN (Fl.V X + Fl.V Y) (-((0 : Nat) : Int)) ∧ RN (Fl.V X + Fl.V Y) (-((0 : Nat) : Int)) ≤ (b + 1) * ON ∧ Ne (mv (RN (Fl.V X + Fl.V Y) (-((0 : Nat) : Int)))) (mv X + mv Y) 1 := by
  have lX := hi_V hX hb
  have lY := hi_V hY hb
  have hs : 2 ^ (51 + b) + 2 ^ (51 + b) = 2 ^ (51 + (b + 1)) := by rw [← Nat.two_mul, ← Nat.pow_succ']; congr 1
  have hf : RN (Fl.V X + Fl.V Y) (-((0 : Nat) : Int)) < INF := by
    refine RN_fin (E := 51 + (b + 1)) (by omega) ?_
    rw [Nat.pow_zero, Nat.mul_one]; omega
  refine ⟨hf, RN_ge (by rw [Nat.pow_zero, Nat.mul_one]; omega) hf, RN_ge (by rw [Nat.pow_zero, Nat.mul_one]; omega) hf, RN_low (by rw [V_bin (by omega), Nat.pow_zero, Nat.mul_one]; omega) hf, ?_⟩
  have n1 : Ne ((Fl.V (RN (Fl.V X + Fl.V Y) (-((0 : Nat) : Int))) : Nat) : Rat) ((Fl.V X + Fl.V Y : Nat) : Rat) 1 := by
    by_cases hsm : Fl.V X + Fl.V Y < 2 * ON
    · rw [RN_small hsm, V_flat hsm]
      exact Ne.refl _ (by exact_mod_cast Nat.zero_le _) (by decide)
    · have he : 2 ^ 52 * 2 ^ 0 ≤ Fl.V X + Fl.V Y := by rw [Nat.pow_zero, Nat.mul_one, ← ON_pow]; omega
      obtain ⟨e1, e2⟩ := RN_err he hf
      rw [Nat.pow_zero, Nat.mul_one] at e1 e2
      exact Ne.of_nat e1 e2
  generalize RN (Fl.V X + Fl.V Y) (-((0 : Nat) : Int)) = r at *
  rw [Rat.natCast_add, ← mv_U, ← mv_U, ← mv_U] at n1
  exact Ne.cancel UQ_pos (by rw [Rat.add_mul]; exact n1)

set_option exponentiation.threshold 4000 in
/-- The quotient of magnitudes. -/
theorem quo_op {Q k X Y a b c d : Nat} (hX : Win X a b) (hY : Win Y c d) (ha : 1 ≤ a) (hc : 1 ≤ c) (hb : b ≤ 1900) (hd : d ≤ 1900) (h1 : d ≤ a + 1020) (h2 : b ≤ c + 900)
    (q1 : 2 ^ 54 * (Q * Fl.V Y) ≤ 2 ^ 54 * (Fl.V X * 2 ^ (1074 + k)) + Q * Fl.V Y) (q2 : 2 ^ 54 * (Fl.V X * 2 ^ (1074 + k)) ≤ 2 ^ 54 * (Q * Fl.V Y) + Q * Fl.V Y) :
    RN Q (-((k : Nat) : Int)) < INF ∧ Win (RN Q (-((k : Nat) : Int))) (a + 1022 - d) (b + 1024 - c) ∧ Ne (mv (RN Q (-((k : Nat) : Int))) * mv Y) (mv X) 2 := by
  have hbd : a ≤ b := Nat.le_of_mul_le_mul_right (Nat.le_trans hX.lo hX.hi) (by rw [ON_pow]; decide)
  have hcd : c ≤ d := Nat.le_of_mul_le_mul_right (Nat.le_trans hY.lo hY.hi) (by rw [ON_pow]; decide)
  obtain ⟨z, hz⟩ : ∃ z, z = 1074 + k := ⟨_, rfl⟩
  rw [← hz] at q1 q2
  have x1 := hX.vlo ha
  have x2 := hi_V hX.hi (by omega)
  have y1 := hY.vlo hc
  have y2 := hi_V hY.hi (by omega)
  have mlo : 2 ^ (51 + a + z) ≤ Fl.V X * 2 ^ z := by rw [Nat.pow_add]; exact Nat.mul_le_mul_right _ x1
  have mhi : Fl.V X * 2 ^ z ≤ 2 ^ (51 + b + z) := by rw [Nat.pow_add]; exact Nat.mul_le_mul_right _ x2
  have wlo : Q * 2 ^ (51 + c) ≤ Q * Fl.V Y := Nat.mul_le_mul_left _ y1
  have whi : Q * Fl.V Y ≤ Q * 2 ^ (51 + d) := Nat.mul_le_mul_left _ y2
  have hlo : 2 ^ (1073 + a + k - d) ≤ Q := by
    have h3 : 2 ^ (1073 + a + k - d) * 2 ^ (52 + d) ≤ Q * 2 ^ (52 + d) := by
      rw [← Nat.pow_add, show 1073 + a + k - d + (52 + d) = 51 + a + z by omega, show 52 + d = 51 + d + 1 by omega, Nat.pow_succ, ← Nat.mul_assoc]
      omega
    exact Nat.le_of_mul_le_mul_right h3 (Nat.two_pow_pos _)
  have hhi : Q ≤ 2 ^ (1075 + b + k - c) := by
    have h3 : Q * 2 ^ (51 + c) ≤ 2 ^ (1075 + b + k - c) * 2 ^ (51 + c) := by
      rw [← Nat.pow_add, show 1075 + b + k - c + (51 + c) = 51 + b + z + 1 by omega, Nat.pow_succ]
      omega
    exact Nat.le_of_mul_le_mul_right h3 (Nat.two_pow_pos _)
  have hf : RN Q (-((k : Nat) : Int)) < INF := by
    refine RN_fin (E := 1075 + b - c) (by omega) ?_
    rw [← Nat.pow_add, show 1075 + b - c + k = 1075 + b + k - c by omega]
    exact hhi
  refine ⟨hf, ⟨RN_ge ?_ hf, RN_low ?_ hf⟩, ?_⟩
  · rw [V_bin (by omega), ← Nat.pow_add, show 51 + (a + 1022 - d) + k = 1073 + a + k - d by omega]
    exact hlo
  · rw [V_bin (by omega), ← Nat.pow_add, show 51 + (b + 1024 - c) + k = 1075 + b + k - c by omega]
    exact hhi
  · have he : 2 ^ 52 * 2 ^ k ≤ Q := by
      refine Nat.le_trans ?_ hlo
      rw [← Nat.pow_add]
      exact Nat.pow_le_pow_right (by decide) (by omega)
    obtain ⟨e1, e2⟩ := RN_err he hf
    clear mlo mhi wlo whi hlo hhi he hf x1 x2 y1 y2
    generalize RN Q (-((k : Nat) : Int)) = r at *
    have n1 := Ne.of_nat e1 e2
    have q1' : (18014398509481984 : Rat) * ((Q * Fl.V Y : Nat) : Rat) ≤ 18014398509481984 * ((Fl.V X * 2 ^ z : Nat) : Rat) + ((Q * Fl.V Y : Nat) : Rat) := by exact_mod_cast q1
    have q2' : (18014398509481984 : Rat) * ((Fl.V X * 2 ^ z : Nat) : Rat) ≤ 18014398509481984 * ((Q * Fl.V Y : Nat) : Rat) + ((Q * Fl.V Y : Nat) : Rat) := by exact_mod_cast q2
    have m0 : (0 : Rat) ≤ ((Fl.V X * 2 ^ z : Nat) : Rat) := by exact_mod_cast Nat.zero_le _
    have w0 : (0 : Rat) ≤ ((Q * Fl.V Y : Nat) : Rat) := by exact_mod_cast Nat.zero_le _
    have y0 : (0 : Rat) ≤ (Fl.V Y : Rat) := by exact_mod_cast Nat.zero_le _
    have n2 : Ne ((Q * Fl.V Y : Nat) : Rat) ((Fl.V X * 2 ^ z : Nat) : Rat) (51 / 100) := by
      unfold Ne EP
      exact ⟨by grind, by grind⟩
    have n3 : Ne (((Fl.V r * 2 ^ k : Nat) : Rat) * (Fl.V Y : Rat)) ((Q * Fl.V Y : Nat) : Rat) 1 := by
      rw [Rat.natCast_mul Q]
      exact ⟨by have := mr n1.1 y0; grind, by have := mr n1.2 y0; grind⟩
    have n4 := (n3.trans n2 m0 (by decide +kernel) (by decide +kernel) (by decide +kernel) (by decide +kernel)).more m0 (show (1 + 51 / 100 + 1 / 1000 : Rat) ≤ 2 by decide +kernel)
    have c1 : ((Fl.V r * 2 ^ k : Nat) : Rat) * (Fl.V Y : Rat) = mv r * mv Y * (UQ * UQ * ((2 ^ k : Nat) : Rat)) := by rw [Rat.natCast_mul, ← mv_U, ← mv_U]; grind
    have c2 : ((Fl.V X * 2 ^ z : Nat) : Rat) = mv X * (UQ * UQ * ((2 ^ k : Nat) : Rat)) := by rw [hz, Rat.natCast_mul, Nat.pow_add, Rat.natCast_mul, UQ_eq, ← mv_U]; grind
    rw [c1, c2] at n4
    exact Ne.cancel (Rat.mul_pos (Rat.mul_pos UQ_pos UQ_pos) (pow_posQ k)) n4

/-- T^2 is near S where (T - P)^2 <= S <= (T + P)^2 and P is small. -/
theorem near_sq {T P S : Rat} (hT : 0 ≤ T) (hP : 0 ≤ P) (h : P * 18014398509481984 ≤ T) (h1 : (T - P) * (T - P) ≤ S) (h2 : S ≤ (T + P) * (T + P)) : Ne (T * T) S (11 / 10) := by
  have p1 := ml h hT
  have p2 := ml h hP
  have p3 := mn hT hP
  have p4 := mn hT hT
  have p5 := mn hP hP
  unfold Ne EP
  exact ⟨by grind, by grind⟩

set_option exponentiation.threshold 4000 in
/-- The root's square. -/
theorem sqrt_op {Q P p X a b : Nat} (hX : Win X a b) (ha : 849 ≤ a) (hb : b ≤ 1079) (hP : P = 2 ^ p) (hQ : 2 ^ 54 ≤ Q) (h1 : (Q - 1) * P * ((Q - 1) * P) ≤ Fl.V X * 2 ^ 1074) (h2 : Fl.V X * 2 ^ 1074 ≤ (Q + 1) * P * ((Q + 1) * P)) :
    RN (Q * P) (-((0 : Nat) : Int)) < INF ∧ Ne (mv (RN (Q * P) (-((0 : Nat) : Int))) * mv (RN (Q * P) (-((0 : Nat) : Int)))) (mv X) 4 := by
  have x2 := hi_V hX.hi (by have := Nat.le_of_mul_le_mul_right (Nat.le_trans hX.lo hX.hi) (by rw [ON_pow]; decide); omega)
  obtain ⟨z, hz⟩ : ∃ z, z = 1074 := ⟨_, rfl⟩
  have hU : ((2 ^ z : Nat) : Rat) = UQ := by rw [hz]; exact UQ_eq
  rw [← hz] at h1 h2
  have hP1 : 1 ≤ P := by rw [hP]; exact Nat.two_pow_pos p
  have eA : (Q - 1) * P + P = Q * P := by
    rw [← Nat.succ_mul]; congr 1; have := Nat.two_pow_pos 54; omega
  have eB : (Q + 1) * P = Q * P + P := by rw [Nat.succ_mul]
  have hPT : 2 ^ 54 * P ≤ Q * P := Nat.mul_le_mul_right _ hQ
  generalize (Q - 1) * P = A at *
  generalize (Q + 1) * P = B at *
  generalize Q * P = T at *
  have hA2 : T ≤ 2 * A := by omega
  have hS : Fl.V X * 2 ^ z ≤ 2 ^ (51 + b + z) := by rw [Nat.pow_add]; exact Nat.mul_le_mul_right _ x2
  have hT : T ≤ 2 ^ 1300 := by
    obtain ⟨y, hy⟩ : ∃ y, y = 1300 := ⟨_, rfl⟩
    rw [← hy]
    rcases Nat.lt_or_ge (2 ^ y) T with h | h
    · exfalso
      have t1 : 2 ^ y * 2 ^ y ≤ T * T := Nat.mul_le_mul (Nat.le_of_lt h) (Nat.le_of_lt h)
      have t2 : T * T ≤ (2 * A) * (2 * A) := Nat.mul_le_mul hA2 hA2
      have t3 : (2 * A) * (2 * A) = 4 * (A * A) := Nat.mul_mul_mul_comm 2 A 2 A
      have t4 : 2 ^ (51 + b + z + 3) ≤ 2 ^ (y + y) := Nat.pow_le_pow_right (by decide) (by omega)
      rw [Nat.pow_add 2 (51 + b + z) 3, Nat.pow_add 2 y y] at t4
      have t5 := Nat.two_pow_pos (51 + b + z)
      omega
    · exact h
  have hf : RN T (-((0 : Nat) : Int)) < INF := RN_fin (E := 1300) (by decide) (by rw [Nat.pow_zero, Nat.mul_one]; exact hT)
  refine ⟨hf, ?_⟩
  have he : 2 ^ 52 * 2 ^ 0 ≤ T := by
    rw [Nat.pow_zero, Nat.mul_one]; omega
  obtain ⟨e1, e2⟩ := RN_err he hf
  rw [Nat.pow_zero, Nat.mul_one] at e1 e2
  generalize RN T (-((0 : Nat) : Int)) = r at *
  have n1 := Ne.of_nat e1 e2
  have T0 : (0 : Rat) ≤ (T : Rat) := by exact_mod_cast Nat.zero_le _
  have P0 : (0 : Rat) ≤ (P : Rat) := by exact_mod_cast Nat.zero_le _
  have A1 : (A : Rat) + (P : Rat) = (T : Rat) := by exact_mod_cast eA
  have A0 : (A : Rat) = (T : Rat) - (P : Rat) := by grind
  have B0 : (B : Rat) = (T : Rat) + (P : Rat) := by exact_mod_cast eB
  have s1 : (A : Rat) * (A : Rat) ≤ ((Fl.V X * 2 ^ z : Nat) : Rat) := by exact_mod_cast h1
  have s2 : ((Fl.V X * 2 ^ z : Nat) : Rat) ≤ (B : Rat) * (B : Rat) := by exact_mod_cast h2
  have s4 : (18014398509481984 : Rat) * (P : Rat) ≤ (T : Rat) := by exact_mod_cast hPT
  have s3 : (P : Rat) * 18014398509481984 ≤ (T : Rat) := by grind
  rw [A0] at s1
  rw [B0] at s2
  have S0 : (0 : Rat) ≤ ((Fl.V X * 2 ^ z : Nat) : Rat) := by exact_mod_cast Nat.zero_le _
  have n2 := near_sq T0 P0 s3 s1 s2
  have n3 := n1.mul n1 T0 T0 (by decide +kernel) (by decide +kernel) (by decide +kernel) (by decide +kernel)
  have n4 := (n3.trans n2 S0 (by decide +kernel) (by decide +kernel) (by decide +kernel) (by decide +kernel)).more S0 (show _ ≤ (4 : Rat) by decide +kernel)
  rw [Rat.natCast_mul, hU, ← mv_U, ← mv_U] at n4
  have c1 : mv r * UQ * (mv r * UQ) = mv r * mv r * (UQ * UQ) := by grind
  have c2 : mv X * UQ * UQ = mv X * (UQ * UQ) := by grind
  rw [c1, c2] at n4
  exact Ne.cancel (Rat.mul_pos UQ_pos UQ_pos) n4
end Go.Proofs.Ytnmpofjegepmaaa.Mag
