/- Floats up to NaN: what each operation comes to, as a function of the operands' canonical words; the walk's laws for it. -/
import Derived.Test.YtnmpofjegepmaaaFloat
import Derived.Laws.ComplexArith
import Derived.Deep.Draws
import Derived.WalkKit
namespace Go.Proofs.Ytnmpofjegepmaaa
open Go.Proofs.Ytnmpofjegepmaaa.Fl

/-- The one NaN. -/
def QN : Nat := 9221120237041090561
/-- A float up to NaN. -/
def cn (b : Nat) : Nat := if nan b then QN else b
/-- An operation up to NaN. -/
def N2 (op : BinOp) (x y : Nat) : Nat := (floatBits op .f64 x y).getD QN

theorem cn_num {b : Nat} (h : nan b = false) : cn b = b := by unfold cn; rw [h]; rfl
theorem cn_nan {b : Nat} (h : nan b = true) : cn b = QN := by unfold cn; rw [h]; rfl
theorem nan_QN : nan QN = true := by decide
theorem nan_cn (b : Nat) : nan (cn b) = nan b := by
  cases h : nan b
  · rw [cn_num h, h]
  · rw [cn_nan h]; exact nan_QN
theorem cn_cn (b : Nat) : cn (cn b) = cn b := by
  cases h : nan b
  · rw [cn_num h, cn_num h]
  · rw [cn_nan h, cn_nan nan_QN]

/-- What is written is no NaN, where the datum is none. -/
theorem write_num (d : Ieee.Datum) (h : d.isNaN = false) : nan (Ieee.double.write d) = false := by
  have k : ∀ neg r, r ≤ INF → nan (wd neg r) = false := by
    intro neg r hr
    have hs : r < SG := Nat.lt_of_le_of_lt hr (by decide)
    unfold nan; rw [wd_rung neg hs]; simp only [decide_eq_false_iff_not]; omega
  cases d with
  | number s m p => rw [write_number]; exact k _ _ (RN_le _ _)
  | infinity s =>
    have : Ieee.double.write (.infinity s) = wd s INF := by
      show Ieee.double.word s Ieee.double.infRung = _
      unfold Ieee.Format.word; rw [sw, ir]; unfold wd; cases s <;> simp
    rw [this]; exact k _ _ (Nat.le_refl _)
  | nan s t => cases h

theorem sum_num {d e f : Ieee.Datum} (h : d.sum e = some f) : f.isNaN = false := by
  cases d <;> cases e <;> simp [Ieee.Datum.sum] at h
  all_goals first | (subst h; rfl) | (obtain ⟨_, rfl⟩ := h; rfl)
theorem product_num {d e f : Ieee.Datum} (h : d.product e = some f) : f.isNaN = false := by
  cases d <;> cases e <;> simp [Ieee.Datum.product] at h
  all_goals first | (subst h; rfl) | (obtain ⟨_, rfl⟩ := h; rfl)
theorem quotient_num {g : Nat} {d e f : Ieee.Datum} (h : Ieee.Datum.quotient g d e = some f) : f.isNaN = false := by
  cases d <;> cases e <;> simp [Ieee.Datum.quotient] at h
  all_goals first | (subst h; rfl) | (obtain ⟨_, rfl⟩ := h; rfl) | skip
  rename_i s m i t n j
  by_cases h1 : n = 0
  · rw [if_pos h1] at h
    by_cases h2 : m = 0
    · rw [if_pos h2] at h; cases h
    · rw [if_neg h2] at h; simp at h; subst h; rfl
  · rw [if_neg h1] at h; simp at h; subst h; rfl

theorem map_num {o : Option Ieee.Datum} {r : Nat} (h : o.map Ieee.double.write = some r) (k : ∀ f, o = some f → f.isNaN = false) : nan r = false := by
  cases o with
  | none => cases h
  | some f => cases h; exact write_num f (k f rfl)

theorem floatBits_num {op : BinOp} {x y r : Nat} (h : floatBits op .f64 x y = some r) : nan r = false := by
  unfold floatBits at h
  split at h
  · exact map_num h fun f hf => sum_num hf
  · exact map_num h fun f hf => sum_num hf
  · exact map_num h fun f hf => product_num hf
  · exact map_num h fun f hf => quotient_num hf
  · cases h

theorem floatBits_lt {op : BinOp} {x y r : Nat} (h : floatBits op .f64 x y = some r) : r < 18446744073709551616 := by
  have := floatBits_wf h
  simpa [Lit.wf] using this

theorem read_nan {b : Nat} (h : nan b = true) : ∃ s t, Ieee.double.read b = .nan s t := by
  have h2 : INF < b % SG := by unfold nan at h; simpa using h
  rw [read_eq, if_neg (by omega), if_neg (by omega)]
  exact ⟨_, _, rfl⟩

theorem N2_nan_l {op : BinOp} {x y : Nat} (h : nan x = true) : N2 op x y = QN := by
  obtain ⟨s, t, e⟩ := read_nan h
  have e' : FloatKind.f64.format.read x = .nan s t := e
  unfold N2 floatBits
  split <;> first | rfl | (simp only [Ieee.Format.add, Ieee.Format.sub, Ieee.Format.mul, Ieee.Format.div, e']; cases FloatKind.f64.format.read y <;> rfl)
theorem N2_nan_r {op : BinOp} {x y : Nat} (h : nan y = true) : N2 op x y = QN := by
  obtain ⟨s, t, e⟩ := read_nan h
  have e' : FloatKind.f64.format.read y = .nan s t := e
  unfold N2 floatBits
  split <;> first | rfl | (simp only [Ieee.Format.add, Ieee.Format.sub, Ieee.Format.mul, Ieee.Format.div, e']; cases FloatKind.f64.format.read x <;> rfl)

theorem N2_cn (op : BinOp) (x y : Nat) : N2 op (cn x) (cn y) = N2 op x y := by
  cases h : nan x
  · cases h2 : nan y
    · rw [cn_num h, cn_num h2]
    · rw [N2_nan_r h2, N2_nan_r (by rw [nan_cn]; exact h2)]
  · rw [N2_nan_l h, N2_nan_l (by rw [nan_cn]; exact h)]

theorem N2_lt (op : BinOp) (x y : Nat) : N2 op x y < 18446744073709551616 := by
  unfold N2
  cases h : floatBits op .f64 x y with
  | none => decide
  | some r => exact floatBits_lt h

section
variable {P : Program} (w : World)

/-- An operation, whatever comes of it: its word up to NaN; draws. -/
theorem farith_any (op : BinOp) (hop : op = .add ∨ op = .sub ∨ op = .mul ∨ op = .quo) (x y : Nat) :
    ∃ r n : Nat, (Op.floatArith op .f64 x y).run P w = .ok (.float .f64 r) (w.drewN n) ∧ r < 18446744073709551616 ∧ cn r = N2 op x y := by
  cases h : floatBits op .f64 x y with
  | some r => exact ⟨r, 0, run_floatArith w h, floatBits_lt h, by rw [cn_num (floatBits_num h)]; unfold N2; rw [h]; rfl⟩
  | none =>
    refine ⟨Question.cut (.nanBits .f64 x y) (w.tape w.drawn (.nanBits .f64 x y)), 1, ?_, ?_, ?_⟩
    · unfold floatBits at h
      rcases hop with rfl | rfl | rfl | rfl <;> simp only at h <;> simp [Op.floatArith, h, choose, Sem.run, Question.forced, World.drewN]
    · simp only [Question.cut]; omega
    · have hn : nan (Question.cut (.nanBits .f64 x y) (w.tape w.drawn (.nanBits .f64 x y))) = true := by
        simp only [Question.cut]; unfold nan; simp only [SG, INF, decide_eq_true_eq]
        generalize w.tape w.drawn (.nanBits .f64 x y) = t
        have h1 : t % 2 = 0 ∨ t % 2 = 1 := by omega
        have h2 : t / 2 % (2 ^ 52 - 1) < 4503599627370495 := Nat.mod_lt _ (by decide)
        generalize t / 2 % (2 ^ 52 - 1) = c at *
        rcases h1 with h1 | h1 <;> rw [h1] <;> omega
      rw [cn_nan hn]; unfold N2; rw [h]; rfl

theorem arith_any (op : BinOp) (hop : op = .add ∨ op = .sub ∨ op = .mul ∨ op = .quo) (t : TypeId) (x y : Nat) :
    ∃ r n : Nat, (binOp op t (.float .f64 x) (.float .f64 y)).run P w = .ok (.float .f64 r) (w.drewN n) ∧ r < 18446744073709551616 ∧ cn r = N2 op x y := by
  have e : binOp op t (.float .f64 x) (.float .f64 y) = Op.floatArith op .f64 x y := by
    rcases hop with rfl | rfl | rfl | rfl <;> rfl
  rw [e]; exact farith_any w op hop x y

theorem carith_any (op : BinOp) (hop : op = .add ∨ op = .sub ∨ op = .mul ∨ op = .quo) (x y : Nat) :
    ∃ r n : Nat, (Op.Complex.arith op .f64 x y).run P w = .ok r (w.drewN n) ∧ r < 18446744073709551616 ∧ cn r = N2 op x y := by
  obtain ⟨r, n, h1, h2, h3⟩ := farith_any (P := P) w op hop x y
  exact ⟨r, n, by simp [Op.Complex.arith, h1], h2, h3⟩

/-- A sum or a difference of complex numbers. -/
theorem csum_any (op : BinOp) (hop : op = .add ∨ op = .sub) (t : TypeId) (a b c d : Nat) :
    ∃ re im n : Nat, (binOp op t (.complex .f64 a b) (.complex .f64 c d)).run P w = .ok (.complex .f64 re im) (w.drewN n) ∧ re < 18446744073709551616 ∧ im < 18446744073709551616 ∧ cn re = N2 op a c ∧ cn im = N2 op b d := by
  have hop' : op = .add ∨ op = .sub ∨ op = .mul ∨ op = .quo := by rcases hop with h | h <;> simp [h]
  obtain ⟨r1, n1, h1, l1, e1⟩ := carith_any (P := P) w op hop' a c
  obtain ⟨r2, n2, h2, l2, e2⟩ := carith_any (P := P) (w.drewN n1) op hop' b d
  refine ⟨r1, r2, n1 + n2, ?_, l1, l2, e1, e2⟩
  have h3 : (w.drewN n1).drewN n2 = w.drewN (n1 + n2) := World.drewN_drewN w n1 n2
  rcases hop with rfl | rfl <;> simp [binOp, Op.complexOp, h1, h2, h3]

/-- The walk's law for an operation on floats. -/
theorem wpList_farith {ops : Array Oper} {rest : List Oper} {o : Oper} {a : Act} {Q : Exit → Act → World → Prop} (hgd : o.guard = none) (op : BinOp) (t ty : TypeId) (x y : Operand)
    (ho : o.op = .binOp op t x y ty) (u v : Nat) (hx : a.eval x = .float .f64 u) (hy : a.eval y = .float .f64 v) (hop : op = .add ∨ op = .sub ∨ op = .mul ∨ op = .quo)
    (h : ∀ r n, r < 18446744073709551616 → cn r = N2 op u v → wpList P ops Q rest (a.put o.dst (.float .f64 r)) (w.drewN n)) : wpList P ops Q (o :: rest) a w :=
  wpList_plain hgd fun K hK => by
    obtain ⟨r, n, h1, h2, h3⟩ := arith_any (P := P) w op hop t u v
    unfold Oper.wp
    have e : (execOp a.eval o).run P w = .ok (.value (.float .f64 r)) (w.drewN n) := by
      unfold execOp
      rw [ho]
      rcases hop with rfl | rfl | rfl | rfl <;> simp [hx, hy, h1, eqGuard]
    rw [e]
    exact hK _ _ (h r n h2 h3)
end
end Go.Proofs.Ytnmpofjegepmaaa
