/- A guarded filter in plain functions. -/
import Derived.Test.YtnmpofjegepmaaaG3
namespace Go.Proofs.Ytnmpofjegepmaaa
open Go.RowKit Go.Proofs.Ytnmpofjegepmaaa.Fl Go.Proofs.Ytnmpofjegepmaaa.Pt

theorem cls_cn (b : Nat) : cls (cn b) = cls b := by
  cases h : nan b
  · rw [cn_num h]
  · rw [cn_nan h, cls_nan.2 h]; decide
theorem sgw_cn {b : Nat} (h : cls b ≠ 4) : cn b = b := by
  cases hn : nan b
  · exact cn_num hn
  · exact absurd (cls_nan.2 hn) h
theorem clF_cn (f c m : Bool) (b : Nat) : cn (clF f c m b) = clF f c m (cn b) := by
  unfold clF
  rw [cls_cn]
  by_cases h4 : cls b = 4
  · simp only [h4, if_true]
    cases m
    · simp
    · simp; decide
  · rw [sgw_cn h4]
    simp only [if_neg h4]
    have key : cls b ≠ 4 → cn b = b := sgw_cn
    split
    · split
      · unfold sgw; split <;> decide
      · exact key h4
    · split
      · split
        · unfold sgw; split <;> decide
        · exact key h4
      · exact key h4
theorem clB_cn (f c m : Bool) (b : Nat) : clB f c m (cn b) = clB f c m b := by unfold clB; rw [cls_cn]
theorem clC_cc (f c m : Bool) (a : C) : ccn (clC f c m a) = clC f c m (ccn a) := by unfold ccn clC; rw [clF_cn, clF_cn]
theorem clN_cc (f c m : Bool) (a : C) : clN f c m (ccn a) = clN f c m a := by unfold ccn clN; rw [clB_cn, clB_cn]
theorem clF_lt {f c m : Bool} {b : Nat} (hb : b < 18446744073709551616) : clF f c m b < 18446744073709551616 := by
  unfold clF
  repeat' split
  all_goals first | exact hb | exact sgw_lt b | omega | (unfold sgw; simp only [SG]; split <;> omega)
theorem clC_wf {f c m : Bool} {a : C} (h : wf a) : wf (clC f c m a) := ⟨clF_lt h.1, clF_lt h.2⟩

/-- What goes from section to section; what a section answers ahead of the guard; the states behind it; the count. -/
def qYv (f c m : Bool) (g : C) (Sc St : Nat → C) (x : C) : Nat → C
  | 0 => cmul g x
  | i + 1 => clC f c m (sy (Sc (i * 5)) (St (i * 2)) (qYv f c m g Sc St x i))
def qR (f c m : Bool) (g : C) (Sc St : Nat → C) (x : C) (i : Nat) : C := sy (Sc (i * 5)) (St (i * 2)) (qYv f c m g Sc St x i)
def qT1 (f c m : Bool) (g : C) (Sc St : Nat → C) (x : C) (i : Nat) : C := st1 (Sc (i * 5 + 1)) (Sc (i * 5 + 3)) (St (i * 2 + 1)) (qYv f c m g Sc St x i) (qR f c m g Sc St x i)
def qT2 (f c m : Bool) (g : C) (Sc St : Nat → C) (x : C) (i : Nat) : C := st2 (Sc (i * 5 + 2)) (Sc (i * 5 + 4)) (qYv f c m g Sc St x i) (qR f c m g Sc St x i)
def qTv (f c m : Bool) (g : C) (Sc St : Nat → C) (x : C) (k j : Nat) : C := if j < k * 2 then (if j % 2 = 0 then clC f c m (qT1 f c m g Sc St x (j / 2)) else clC f c m (qT2 f c m g Sc St x (j / 2))) else St j
def qN (f c m : Bool) (g : C) (Sc St : Nat → C) (x : C) : Nat → Nat
  | 0 => 0
  | i + 1 => qN f c m g Sc St x i + clN f c m (qR f c m g Sc St x i) + clN f c m (qT1 f c m g Sc St x i) + clN f c m (qT2 f c m g Sc St x i)

theorem qTv_at (f c m : Bool) (g : C) (Sc St : Nat → C) (x : C) (k j : Nat) (h : k * 2 ≤ j) : qTv f c m g Sc St x k j = St j := by unfold qTv; rw [if_neg (by omega)]
theorem qTv_succ (f c m : Bool) (g : C) (Sc St : Nat → C) (x : C) (k j : Nat) : qTv f c m g Sc St x (k + 1) j = if j = k * 2 + 1 then clC f c m (qT2 f c m g Sc St x k) else if j = k * 2 then clC f c m (qT1 f c m g Sc St x k) else qTv f c m g Sc St x k j := by
  unfold qTv
  by_cases h : j = k * 2 + 1
  · subst h; rw [if_pos (by omega), if_neg (by omega), if_pos rfl]; congr 2; omega
  · by_cases h' : j = k * 2
    · subst h'; rw [if_pos (by omega), if_pos (by omega), if_neg h, if_pos rfl]; congr 2; omega
    · rw [if_neg h, if_neg h']
      by_cases hj : j < k * 2
      · rw [if_pos (by omega), if_pos hj]
      · rw [if_neg (by omega), if_neg hj]

/-- Along a list. -/
def qSs (f c m : Bool) (n : Nat) (g : C) (Sc St : Nat → C) (xs : Nat → C) : Nat → Nat → C
  | 0 => St
  | i + 1 => qTv f c m g Sc (qSs f c m n g Sc St xs i) (xs i) n
def qYs (f c m : Bool) (n : Nat) (g : C) (Sc St : Nat → C) (xs : Nat → C) (i : Nat) : C := qYv f c m g Sc (qSs f c m n g Sc St xs i) (xs i) n
def qNs (f c m : Bool) (n : Nat) (g : C) (Sc St : Nat → C) (xs : Nat → C) : Nat → Nat
  | 0 => 0
  | i + 1 => qNs f c m n g Sc St xs i + qN f c m g Sc (qSs f c m n g Sc St xs i) (xs i) n

theorem cnt_add (ch a b : Nat) : cnt (cnt ch a) b = cnt ch (a + b) := by unfold cnt; omega
theorem cnt_zero {ch : Nat} (h : ch < 18446744073709551616) : cnt ch 0 = ch := by unfold cnt; omega
theorem cnt_lt (ch a : Nat) : cnt ch a < 18446744073709551616 := by unfold cnt; omega

/-- Without flags nothing is changed. -/
theorem clC_open (a : C) : clC false false false a = a := by unfold clC clF; simp
theorem clN_open (a : C) : clN false false false a = 0 := by unfold clN clB; simp
theorem qYv_open (g : C) (Sc St : Nat → C) (x : C) (i : Nat) : qYv false false false g Sc St x i = Yv g Sc St x i := by
  induction i with
  | zero => rfl
  | succ i ih => simp only [qYv, clC_open, ih, Yv]
theorem qTv_open (g : C) (Sc St : Nat → C) (x : C) (k : Nat) : qTv false false false g Sc St x k = Tv g Sc St x k := by
  funext j
  unfold qTv Tv
  simp only [clC_open, qT1, qT2, qR, qYv_open]
  rfl
theorem qSs_open (n : Nat) (g : C) (Sc St : Nat → C) (xs : Nat → C) (i : Nat) : qSs false false false n g Sc St xs i = Ss n g Sc St xs i := by
  induction i with
  | zero => rfl
  | succ i ih => simp only [qSs, ih, qTv_open]; rfl
theorem qYs_open (n : Nat) (g : C) (Sc St : Nat → C) (xs : Nat → C) (i : Nat) : qYs false false false n g Sc St xs i = Ys n g Sc St xs i := by
  unfold qYs; rw [qSs_open, qYv_open]; rfl
theorem qN_open (g : C) (Sc St : Nat → C) (x : C) (i : Nat) : qN false false false g Sc St x i = 0 := by
  induction i with
  | zero => rfl
  | succ i ih => simp only [qN, clN_open, ih]
theorem qNs_open (n : Nat) (g : C) (Sc St : Nat → C) (xs : Nat → C) (i : Nat) : qNs false false false n g Sc St xs i = 0 := by
  induction i with
  | zero => rfl
  | succ i ih => simp only [qNs, qN_open, ih]
end Go.Proofs.Ytnmpofjegepmaaa
