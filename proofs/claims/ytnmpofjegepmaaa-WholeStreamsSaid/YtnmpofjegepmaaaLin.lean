/- Filters of small whole numbers without poles are exact, and so linear and late. -/
import Derived.Test.YtnmpofjegepmaaaEx
import Derived.Test.YtnmpofjegepmaaaC8
namespace Go.Proofs.Ytnmpofjegepmaaa
open Go.Proofs.Ytnmpofjegepmaaa.Fl

abbrev G := Int × Int
def gmul (a b : G) : G := (a.1 * b.1 - a.2 * b.2, a.1 * b.2 + a.2 * b.1)
def gadd (a b : G) : G := (a.1 + b.1, a.2 + b.2)
def g0 : G := (0, 0)
/-- The number x holds the whole number z, whose parts are at most B. -/
def XC (x : C) (z : G) (B : Nat) : Prop := (EX x.1 z.1 1074 ∧ EX x.2 z.2 1074) ∧ z.1.natAbs ≤ B ∧ z.2.natAbs ≤ B

theorem XC.mono {x : C} {z : G} {A B : Nat} (h : XC x z A) (hb : A ≤ B) : XC x z B := ⟨h.1, by have := h.2.1; omega, by have := h.2.2; omega⟩
theorem natAbs_mul_le {a b : Int} {A B : Nat} (ha : a.natAbs ≤ A) (hb : b.natAbs ≤ B) : (a * b).natAbs ≤ A * B := by rw [Int.natAbs_mul]; exact Nat.mul_le_mul ha hb
theorem cmul_ex {a b : C} {z w : G} {A B : Nat} (ha : XC a z A) (hb : XC b w B) (h : 2 * (A * B) < 9007199254740992) : XC (cmul a b) (gmul z w) (2 * (A * B)) := by
  obtain ⟨⟨a1, a2⟩, a3, a4⟩ := ha
  obtain ⟨⟨b1, b2⟩, b3, b4⟩ := hb
  have m1 := natAbs_mul_le a3 b3
  have m2 := natAbs_mul_le a4 b4
  have m3 := natAbs_mul_le a3 b4
  have m4 := natAbs_mul_le a4 b3
  have p1 := mul_ex (m := 1074) a1 b1 (by omega) rfl (by omega)
  have p2 := mul_ex (m := 1074) a2 b2 (by omega) rfl (by omega)
  have p3 := mul_ex (m := 1074) a1 b2 (by omega) rfl (by omega)
  have p4 := mul_ex (m := 1074) a2 b1 (by omega) rfl (by omega)
  refine ⟨⟨sub_ex p1 p2 (by omega) (by omega), add_ex p3 p4 (by omega) (by omega)⟩, ?_, ?_⟩ <;> (simp only [gmul]; omega)
theorem cadd_ex {a b : C} {z w : G} {A B : Nat} (ha : XC a z A) (hb : XC b w B) (h : A + B < 9007199254740992) : XC (cadd a b) (gadd z w) (A + B) := by
  obtain ⟨⟨a1, a2⟩, a3, a4⟩ := ha
  obtain ⟨⟨b1, b2⟩, b3, b4⟩ := hb
  refine ⟨⟨add_ex a1 b1 (by omega) (by omega), add_ex a2 b2 (by omega) (by omega)⟩, ?_, ?_⟩ <;> (simp only [gadd]; omega)
theorem csub0_ex {a b : C} {z : G} {A : Nat} (ha : XC a z A) (hb : XC b g0 0) (h : A < 9007199254740992) : XC (csub a b) z A := by
  obtain ⟨⟨a1, a2⟩, a3, a4⟩ := ha
  obtain ⟨⟨b1, b2⟩, _, _⟩ := hb
  have p1 := sub_ex a1 b1 (by simp only [g0]; omega) (by omega)
  have p2 := sub_ex a2 b2 (by simp only [g0]; omega) (by omega)
  simp only [g0, Int.sub_zero] at p1 p2
  exact ⟨⟨p1, p2⟩, a3, a4⟩
theorem gmul0 (z : G) : gmul g0 z = g0 := by simp [gmul, g0]

/-- The filter in whole numbers. -/
def gYv (Sg Tg : Nat → G) (x : G) : Nat → G
  | 0 => x
  | i + 1 => gadd (gmul (Sg (i * 5)) (gYv Sg Tg x i)) (Tg (i * 2))
def gTv (Sg Tg : Nat → G) (x : G) (n j : Nat) : G :=
  if j < n * 2 then (if j % 2 = 0 then gadd (gmul (Sg (j / 2 * 5 + 1)) (gYv Sg Tg x (j / 2))) (Tg (j / 2 * 2 + 1)) else gmul (Sg (j / 2 * 5 + 2)) (gYv Sg Tg x (j / 2))) else Tg j
def gSs (n : Nat) (Sg : Nat → G) (xs : Nat → G) : Nat → Nat → G
  | 0 => fun _ => g0
  | i + 1 => gTv Sg (gSs n Sg xs i) (xs i) n
def gYs (n : Nat) (Sg : Nat → G) (xs : Nat → G) (i : Nat) : G := gYv Sg (gSs n Sg xs i) (xs i) n

theorem gmul_add (a b c : G) : gmul a (gadd b c) = gadd (gmul a b) (gmul a c) := by
  simp only [gmul, gadd, Prod.mk.injEq, Int.mul_add]; constructor <;> omega
theorem gadd4 (a b c d : G) : gadd (gadd a b) (gadd c d) = gadd (gadd a c) (gadd b d) := by
  simp only [gadd, Prod.mk.injEq]; constructor <;> omega

theorem gYv_add (Sg T U : Nat → G) (x y : G) (i : Nat) : gYv Sg (fun j => gadd (T j) (U j)) (gadd x y) i = gadd (gYv Sg T x i) (gYv Sg U y i) := by
  induction i with
  | zero => rfl
  | succ i ih => simp only [gYv, ih, gmul_add, gadd4]
theorem gTv_add (Sg T U : Nat → G) (x y : G) (n : Nat) : gTv Sg (fun j => gadd (T j) (U j)) (gadd x y) n = fun j => gadd (gTv Sg T x n j) (gTv Sg U y n j) := by
  funext j
  unfold gTv
  split
  · split
    · simp only [gYv_add, gmul_add, gadd4]
    · simp only [gYv_add, gmul_add]
  · rfl
theorem gSs_add (n : Nat) (Sg : Nat → G) (xs ys : Nat → G) (i : Nat) : gSs n Sg (fun j => gadd (xs j) (ys j)) i = fun j => gadd (gSs n Sg xs i j) (gSs n Sg ys i j) := by
  induction i with
  | zero => rfl
  | succ i ih => simp only [gSs, ih, gTv_add]
theorem gYs_add (n : Nat) (Sg : Nat → G) (xs ys : Nat → G) (i : Nat) : gYs n Sg (fun j => gadd (xs j) (ys j)) i = gadd (gYs n Sg xs i) (gYs n Sg ys i) := by
  unfold gYs; rw [gSs_add, gYv_add]

theorem gmulz (a : G) : gmul a g0 = g0 := by simp [gmul, g0]
theorem gYv_zero (Sg : Nat → G) (i : Nat) : gYv Sg (fun _ => g0) g0 i = g0 := by
  induction i with
  | zero => rfl
  | succ i ih => simp only [gYv, ih, gmulz]; rfl
theorem gTv_zero (Sg : Nat → G) (n : Nat) : gTv Sg (fun _ => g0) g0 n = fun _ => g0 := by
  funext j
  unfold gTv
  split
  · split
    · simp only [gYv_zero, gmulz]; rfl
    · simp only [gYv_zero, gmulz]
  · rfl
/-- The same, two steps later. -/
def gLate (xs : Nat → G) (j : Nat) : G := if j < 2 then g0 else xs (j - 2)
theorem gSs_late (n : Nat) (Sg : Nat → G) (xs : Nat → G) (i : Nat) : gSs n Sg (gLate xs) (i + 2) = gSs n Sg xs i := by
  induction i with
  | zero =>
    show gTv Sg (gTv Sg (fun _ => g0) (gLate xs 0) n) (gLate xs 1) n = fun _ => g0
    rw [show gLate xs 0 = g0 from rfl, show gLate xs 1 = g0 from rfl, gTv_zero, gTv_zero]
  | succ i ih =>
    show gTv Sg (gSs n Sg (gLate xs) (i + 2)) (gLate xs (i + 2)) n = gTv Sg (gSs n Sg xs i) (xs i) n
    rw [ih]; rfl
theorem gYs_late (n : Nat) (Sg : Nat → G) (xs : Nat → G) (i : Nat) : gYs n Sg (gLate xs) (i + 2) = gYs n Sg xs i := by
  unfold gYs; rw [gSs_late]; rfl
theorem gYs_late0 (n : Nat) (Sg : Nat → G) (xs : Nat → G) : gYs n Sg (gLate xs) 0 = g0 ∧ gYs n Sg (gLate xs) 1 = g0 := by
  constructor
  · exact gYv_zero Sg n
  · show gYv Sg (gTv Sg (fun _ => g0) g0 n) g0 n = g0
    rw [gTv_zero, gYv_zero]

/-- How great the parts can be ahead of section i. -/
def XB (i : Nat) : Nat := 128 * 768 ^ i
theorem XB_succ (i : Nat) : XB (i + 1) = 768 * XB i := by unfold XB; rw [Nat.pow_succ]; omega
theorem XB_le {i : Nat} (h : i ≤ 3) : XB i ≤ 57982058496 := by
  unfold XB
  have : 768 ^ i ≤ 768 ^ 3 := Nat.pow_le_pow_right (by decide) h
  have e : 768 ^ 3 = 452984832 := by decide
  omega

/-- A section's numbers: whole, small, without poles. -/
def SecOK (n : Nat) (Sc : Nat → C) (Sg : Nat → G) : Prop := ∀ i, i < n → (XC (Sc (i * 5)) (Sg (i * 5)) 128 ∧ XC (Sc (i * 5 + 1)) (Sg (i * 5 + 1)) 128 ∧ XC (Sc (i * 5 + 2)) (Sg (i * 5 + 2)) 128) ∧ XC (Sc (i * 5 + 3)) g0 0 ∧ XC (Sc (i * 5 + 4)) g0 0
def StaOK (n : Nat) (St : Nat → C) (Tg : Nat → G) : Prop := ∀ i, i < n → XC (St (i * 2)) (Tg (i * 2)) (512 * XB i) ∧ XC (St (i * 2 + 1)) (Tg (i * 2 + 1)) (256 * XB i)

theorem one_ex : XC ONE (1, 0) 1 := by
  exact ⟨⟨⟨⟨by decide, by decide⟩, by decide +kernel⟩, ⟨⟨by decide, by decide⟩, by decide +kernel⟩⟩, by decide, by decide⟩
theorem zero_ex : XC Z0 g0 0 := ⟨⟨⟨⟨by decide, by decide⟩, by decide +kernel⟩, ⟨⟨by decide, by decide⟩, by decide +kernel⟩⟩, by decide, by decide⟩

section
variable {n : Nat} {Sc St : Nat → C} {Sg Tg : Nat → G} {x : C} {z : G}
theorem yv_ex (h3 : n ≤ 3) (hS : SecOK n Sc Sg) (hT : StaOK n St Tg) (hx : XC x z 128) (i : Nat) (hi : i ≤ n) : XC (Yv ONE Sc St x i) (gYv Sg Tg z i) (XB i) := by
  induction i with
  | zero =>
    have h := cmul_ex one_ex hx (by decide)
    have e : gmul (1, 0) z = z := by simp [gmul]
    rw [e] at h
    exact ⟨h.1, hx.2⟩
  | succ i ih =>
    have h := ih (by omega)
    have hb := XB_le (i := i) (by omega)
    refine (cadd_ex (cmul_ex (hS i (by omega)).1.1 h (by omega)) (hT i (by omega)).1 (by omega)).mono ?_
    rw [XB_succ]; omega
theorem tv_ex (h3 : n ≤ 3) (hS : SecOK n Sc Sg) (hT : StaOK n St Tg) (hx : XC x z 128) : StaOK n (Tv ONE Sc St x n) (gTv Sg Tg z n) := by
  intro i hi
  have hb := XB_le (i := i) (by omega)
  have hb' := XB_le (i := i + 1) (by omega)
  have hy := yv_ex h3 hS hT hx i (by omega)
  have hy' := yv_ex h3 hS hT hx (i + 1) (by omega)
  obtain ⟨⟨_, s1, s2⟩, s3, s4⟩ := hS i hi
  constructor
  · have e1 : Tv ONE Sc St x n (i * 2) = T1 ONE Sc St x i := by
      unfold Tv; rw [if_pos (by omega), if_pos (by omega)]; congr 1; omega
    have e2 : gTv Sg Tg z n (i * 2) = gadd (gmul (Sg (i * 5 + 1)) (gYv Sg Tg z i)) (Tg (i * 2 + 1)) := by
      unfold gTv; rw [if_pos (by omega), if_pos (by omega), show i * 2 / 2 = i by omega]
    rw [e1, e2]
    have p := cadd_ex (cmul_ex s1 hy (by omega)) (hT i hi).2 (by omega)
    have q := cmul_ex s3 hy' (by omega)
    rw [gmul0] at q
    exact (csub0_ex p (q.mono (by omega)) (by omega)).mono (by omega)
  · have e1 : Tv ONE Sc St x n (i * 2 + 1) = T2 ONE Sc St x i := by
      unfold Tv; rw [if_pos (by omega), if_neg (by omega)]; congr 1; omega
    have e2 : gTv Sg Tg z n (i * 2 + 1) = gmul (Sg (i * 5 + 2)) (gYv Sg Tg z i) := by
      unfold gTv; rw [if_pos (by omega), if_neg (by omega), show (i * 2 + 1) / 2 = i by omega]
    rw [e1, e2]
    have p := cmul_ex s2 hy (by omega)
    have q := cmul_ex s4 hy' (by omega)
    rw [gmul0] at q
    exact (csub0_ex p (q.mono (by omega)) (by omega)).mono (by omega)
end

theorem ss_ex {n : Nat} {Sc : Nat → C} {Sg : Nat → G} {xs : Nat → C} {zs : Nat → G} (h3 : n ≤ 3) (hS : SecOK n Sc Sg) (i : Nat) (hx : ∀ j, j < i → XC (xs j) (zs j) 128) : StaOK n (Ss n ONE Sc (fun _ => Z0) xs i) (gSs n Sg zs i) := by
  induction i with
  | zero => exact fun i _ => ⟨zero_ex.mono (Nat.zero_le _), zero_ex.mono (Nat.zero_le _)⟩
  | succ i ih => exact tv_ex h3 hS (ih fun j hj => hx j (by omega)) (hx i (by omega))
theorem ys_ex {n : Nat} {Sc : Nat → C} {Sg : Nat → G} {xs : Nat → C} {zs : Nat → G} (h3 : n ≤ 3) (hS : SecOK n Sc Sg) (i : Nat) (hx : ∀ j, j ≤ i → XC (xs j) (zs j) 128) : XC (Ys n ONE Sc (fun _ => Z0) xs i) (gYs n Sg zs i) 57982058496 :=
  (yv_ex h3 hS (ss_ex h3 hS i fun j hj => hx j (by omega)) (hx i (Nat.le_refl _)) n (Nat.le_refl _)).mono (XB_le h3)
end Go.Proofs.Ytnmpofjegepmaaa
