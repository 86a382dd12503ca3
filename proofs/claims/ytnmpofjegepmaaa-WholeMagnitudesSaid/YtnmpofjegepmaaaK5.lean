/- Quotients of whole numbers by 2^e and 2^e i. -/
import Derived.Test.YtnmpofjegepmaaaK4
import Derived.Test.YtnmpofjegepmaaaD2
namespace Go.Proofs.Ytnmpofjegepmaaa
open Go.RowKit Go.Proofs.Ytnmpofjegepmaaa.Fl Go.Proofs.Ytnmpofjegepmaaa.Pt

theorem z_quo : ∀ e, e < 61 → N2 .quo 0 (W2 e) = 0 := by decide +kernel
theorem z_add : ∀ e, e < 61 → N2 .add (W2 e) (N2 .mul 0 0) = W2 e := by decide +kernel
theorem w_ge : ∀ e, e < 61 → FloatKind.f64.format.order (W2 e % 9223372036854775808) (0 % 9223372036854775808) = some Ordering.gt := by decide +kernel
theorem w_lt : ∀ e, e < 61 → FloatKind.f64.format.order (0 % 9223372036854775808) (W2 e % 9223372036854775808) = some Ordering.lt := by decide +kernel
theorem z_ex (k : Nat) : EX 0 0 k := ⟨⟨by decide, by decide⟩, by rw [Int.zero_mul]; decide⟩
theorem one_ex1 : EX 4607182418800017408 1 1074 := by refine ⟨⟨by decide, by decide⟩, ?_⟩; decide +kernel
theorem W2_lt {e : Nat} (he : e ≤ 60) : W2 e < 18446744073709551616 := by unfold W2; omega
theorem EX.of_cn {r x : Nat} {a : Int} {k : Nat} (h : cn r = x) (hx : EX x a k) : EX r a k := by
  rw [cn_eq h (fin_nan hx.1)]; exact hx
/-- Two exact parts. -/
def EXC (A B : Int) (k : Nat) (w : World) (e : Ending) (w' : World) : Prop := ∃ re im, e = .returned (.complex .f64 re im) ∧ But [] w w' ∧ EX re A k ∧ EX im B k
theorem CPost.exc {x y : Nat} {A B : Int} {k : Nat} {w w' : World} {e : Ending} (h : CPost x y w e w') (hx : EX x A k) (hy : EX y B k) : EXC A B k w e w' := by
  obtain ⟨re, im, n, h1, h2, _, _, h5, h6⟩ := h
  exact ⟨re, im, h1, by rw [h2]; exact (But.refl _ _).drewN _, EX.of_cn h5 hx, EX.of_cn h6 hy⟩

theorem divw_any {e : Nat} (he : e ≤ 60) {a b : Nat} {A B : Int} (ha : EX a A 1074) (hb : EX b B 1074) (hA : A.natAbs < 9007199254740992) (hB : B.natAbs < 9007199254740992) (w : World) :
    Calls Try.prog 63 #[.complex .f64 a b, .complex .f64 (W2 e) 0] w (EXC A B (1074 - e) w) := by
  refine (div_ge a b (W2 e) 0 (W2_lt he) (by decide) w (.inl (w_ge e (by omega)))).mono fun r w' h => ?_
  rw [z_quo e (by omega), z_add e (by omega)] at h
  have m1 := mul_ex (m := 1074) hb (z_ex 1074) (by simp) (by omega) (by omega)
  have m2 := mul_ex (m := 1074) ha (z_ex 1074) (by simp) (by omega) (by omega)
  rw [Int.mul_zero] at m1 m2
  have s1 := add_ex ha m1 (by simpa using hA) (by omega)
  have s2 := sub_ex hb m2 (by simpa using hB) (by omega)
  rw [Int.add_zero] at s1
  rw [Int.sub_zero] at s2
  exact h.exc (quo_ex s1 hA (by omega) (by omega) (by omega)) (quo_ex s2 hB (by omega) (by omega) (by omega))
theorem divi_any {e : Nat} (he : e ≤ 60) {a b : Nat} {A B : Int} (ha : EX a A 1074) (hb : EX b B 1074) (hA : A.natAbs < 9007199254740992) (hB : B.natAbs < 9007199254740992) (w : World) :
    Calls Try.prog 63 #[.complex .f64 a b, .complex .f64 0 (W2 e)] w (EXC B (-A) (1074 - e) w) := by
  refine (div_lt a b 0 (W2 e) (by decide) (W2_lt he) w (w_lt e (by omega))).mono fun r w' h => ?_
  rw [z_quo e (by omega), z_add e (by omega)] at h
  have m1 := mul_ex (m := 1074) ha (z_ex 1074) (by simp) (by omega) (by omega)
  have m2 := mul_ex (m := 1074) hb (z_ex 1074) (by simp) (by omega) (by omega)
  rw [Int.mul_zero] at m1 m2
  have s1 := add_ex m1 hb (by simpa using hB) (by omega)
  have s2 := sub_ex m2 ha (by simpa using hA) (by omega)
  rw [Int.zero_add] at s1
  rw [Int.zero_sub] at s2
  exact h.exc (quo_ex s1 hB (by omega) (by omega) (by omega)) (quo_ex s2 (by simpa using hA) (by omega) (by omega) (by omega))
theorem inv_ex {e : Nat} (he : e ≤ 60) : EX (N2 .quo 4607182418800017408 (W2 e)) 1 (1074 - e) := quo_ex one_ex1 (by decide) (by omega) (by omega) (by omega)
theorem scalew_any {e : Nat} (he : e ≤ 60) {s a b : Nat} {A B : Int} (hs : EX s 1 (1074 - e)) (ha : EX a A 1074) (hb : EX b B 1074) (hA : A.natAbs < 9007199254740992) (hB : B.natAbs < 9007199254740992) (w : World) :
    Calls Try.prog 64 #[.float .f64 s, .complex .f64 a b] w (EXC A B (1074 - e) w) := by
  refine (scale_any s a b w).mono fun r w' h => ?_
  have m1 := mul_ex (m := 1074 - e) hs ha (by simpa using hA) (by omega) (by omega)
  have m2 := mul_ex (m := 1074 - e) hs hb (by simpa using hB) (by omega) (by omega)
  rw [Int.one_mul] at m1 m2
  exact h.exc m1 m2
end Go.Proofs.Ytnmpofjegepmaaa
