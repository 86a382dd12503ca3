/- Contracts of cplx.Mul and run.Step: every product, sum, difference up to NaN; draws. -/
import Derived.Test.YtnmpofjegepmaaaArith
import Derived.Test.YtnmpofjegepmaaaRows
import Derived.WalkKit
import Derived.WalkSpells
import Derived.WalkLawsBesides
import Derived.Lib.Hide
import Derived.Deep.RegionHeld3
namespace Go.Proofs.Ytnmpofjegepmaaa
open Go.RowKit Go.Proofs.Ytnmpofjegepmaaa.Fl

/-- The product's parts, up to NaN. -/
def MR (a b c d : Nat) : Nat := N2 .sub (N2 .mul a c) (N2 .mul b d)
def MI (a b c d : Nat) : Nat := N2 .add (N2 .mul a d) (N2 .mul b c)

/-- A complex number that is (x, y) up to NaN. -/
def CPost (x y : Nat) (w : World) (e : Ending) (w' : World) : Prop :=
  ∃ re im n : Nat, e = .returned (.complex .f64 re im) ∧ w' = w.drewN n ∧ re < 18446744073709551616 ∧ im < 18446744073709551616 ∧ cn re = x ∧ cn im = y

/-- One operation's answer. -/
def Ar (op : BinOp) (u v r : Nat) : Prop := r < 18446744073709551616 ∧ cn r = N2 op u v

theorem cn_N2 (op : BinOp) (u v : Nat) : cn (N2 op u v) = N2 op u v := by
  unfold N2
  cases h : floatBits op .f64 u v with
  | none => decide
  | some r => exact cn_num (floatBits_num h)
theorem N2_l {op : BinOp} {u v x : Nat} (h : cn u = x) : N2 op u v = N2 op x v := by
  subst h; rw [← N2_cn op u v, ← N2_cn op (cn u) v, cn_cn]
theorem N2_r {op : BinOp} {u v y : Nat} (h : cn v = y) : N2 op u v = N2 op u y := by
  subst h; rw [← N2_cn op u v, ← N2_cn op u (cn v), cn_cn]

theorem mul_close {a b c d r1 r2 r3 r4 r5 r6 n : Nat} {w : World} (H1 : Ar .mul a c r1) (H2 : Ar .mul b d r2) (H3 : Ar .sub r1 r2 r3) (H4 : Ar .mul a d r4) (H5 : Ar .mul b c r5) (H6 : Ar .add r4 r5 r6) :
    CPost (MR a b c d) (MI a b c d) w (.returned (.complex .f64 r3 r6)) (w.drewN n) :=
  ⟨r3, r6, n, rfl, rfl, H3.1, H6.1, by rw [H3.2, N2_l H1.2, N2_r H2.2]; rfl, by rw [H6.2, N2_l H4.2, N2_r H5.2]; rfl⟩

set_option maxRecDepth 100000 in
theorem mul_any (a b c d : Nat) (w : World) : Calls Try.prog 50 #[.complex .f64 a b, .complex .f64 c d] w (CPost (MR a b c d) (MI a b c d) w) := by
  go_enter Try.func50, Try.ntmps50
  go_wp2_with (refine wpList_farith _ rfl _ _ _ _ _ rfl _ _ rfl rfl (by simp) ?_; intro r n hr hc; have HR : Ar _ _ _ _ := And.intro hr hc; clear hr hc)
  go_ret
  exact mul_close (by assumption) (by assumption) (by assumption) (by assumption) (by assumption) (by assumption)

/-- '(x + y)' of complex numbers, at a walk that stands there. -/
theorem upon_csum {P : Program} {o : Oper} {a : Act} {K : Act → World → Prop} {Q : Exit → Act → World → Prop} {w : World} (op : BinOp) (t : TypeId) (x y u v : Nat) (hop : op = .add ∨ op = .sub)
    (h : ∀ re im n, Ar op x u re → Ar op y v im → K (a.put o.dst (.complex .f64 re im)) (w.drewN n)) :
    Oper.upon P o a K Q (((binOp op t (.complex .f64 x y) (.complex .f64 u v)).run P w).andThen fun v w' => .ok (.value v) w') := by
  obtain ⟨re, im, n, h1, h2, h3, h4, h5⟩ := csum_any (P := P) w op hop t x y u v
  rw [h1]
  exact h re im n ⟨h2, h4⟩ ⟨h3, h5⟩

/-- The walk's law for it. -/
theorem wpList_csum {P : Program} {w : World} {ops : Array Oper} {rest : List Oper} {o : Oper} {a : Act} {Q : Exit → Act → World → Prop} (hgd : o.guard = none) (op : BinOp) (t ty : TypeId) (x y : Operand)
    (ho : o.op = .binOp op t x y ty) (p q u v : Nat) (hx : a.eval x = .complex .f64 p q) (hy : a.eval y = .complex .f64 u v) (hop : op = .add ∨ op = .sub)
    (h : ∀ re im n, Ar op p u re → Ar op q v im → wpList P ops Q rest (a.put o.dst (.complex .f64 re im)) (w.drewN n)) : wpList P ops Q (o :: rest) a w :=
  wpList_plain hgd fun K hK => by
    obtain ⟨re, im, n, h1, h2, h3, h4, h5⟩ := csum_any (P := P) w op hop t p q u v
    unfold Oper.wp
    have e : (execOp a.eval o).run P w = .ok (.value (.complex .f64 re im)) (w.drewN n) := by
      unfold execOp
      rw [ho]
      rcases hop with rfl | rfl <;> simp [hx, hy, h1, eqGuard]
    rw [e]
    exact hK _ _ (h re im n ⟨h2, h4⟩ ⟨h3, h5⟩)
end Go.Proofs.Ytnmpofjegepmaaa
