/- The conjugate of a product is the product of the conjugates. -/
import Derived.Test.YtnmpofjegepmaaaJ2
namespace Go.Proofs.Ytnmpofjegepmaaa
open Go.RowKit Go.Proofs.Ytnmpofjegepmaaa.Fl Go.Proofs.Ytnmpofjegepmaaa.Pt
open Ieee

theorem read_isnan {a : Nat} (h : nan a = true) : (double.read a).isNaN = true := by
  have h' : INF < a % SG := by simpa [nan] using h
  rw [read_eq, if_neg (by omega), if_neg (by omega)]; rfl
theorem sum_nan {d e : Datum} (h : d.isNaN = true ∨ e.isNaN = true) : d.sum e = none := by
  rcases h with h | h
  · cases d with
    | nan => cases e <;> rfl
    | number => cases h
    | infinity => cases h
  · cases e with
    | nan => cases d <;> rfl
    | number => cases h
    | infinity => cases h
theorem add_num {u v : Nat} (h : nan (N2 .add u v) = false) : nan u = false ∧ nan v = false := by
  have key : (nan u = true ∨ nan v = true) → N2 .add u v = QN := by
    intro hn
    unfold N2 floatBits
    show (double.add u v).getD QN = QN
    unfold Format.add
    rw [sum_nan (hn.imp read_isnan read_isnan)]; rfl
  refine ⟨?_, ?_⟩
  · cases hu : nan u
    · rfl
    · rw [key (.inl hu), nan_QN] at h; cases h
  · cases hv : nan v
    · rfl
    · rw [key (.inr hv), nan_QN] at h; cases h
theorem sub_num {u v : Nat} (hv : v < 18446744073709551616) (h : nan (N2 .sub u v) = false) : nan u = false ∧ nan v = false := by
  have e : N2 .sub u v = N2 .add u (ng v) := by
    unfold N2 floatBits
    show (double.sub u v).getD QN = (double.add u (ng v)).getD QN
    rw [sub_eq hv]
  rw [e] at h
  obtain ⟨h1, h2⟩ := add_num h
  rw [nan_ng hv] at h2
  exact ⟨h1, h2⟩
theorem conj_law {a b c d : Nat} (hb : b < 18446744073709551616) (hd : d < 18446744073709551616) (h1 : nan (MR a b c d) = false) (h2 : nan (MI a b c d) = false) :
    MR a (ng b) c (ng d) = MR a b c d ∧ (MI a (ng b) c (ng d) = ng (MI a b c d) ∨ (MI a (ng b) c (ng d) % SG = 0 ∧ MI a b c d % SG = 0)) := by
  unfold MR MI at *
  obtain ⟨_, n1⟩ := sub_num (N2_lt .mul b d) h1
  obtain ⟨n2, n3⟩ := add_num h2
  have e1 : N2 .mul (ng b) (ng d) = N2 .mul b d := by
    have hx := mul_neg (a := b) hd n1
    rw [neg_mul hb (by rw [hx, nan_ng (N2_lt .mul _ _)]; exact n1), hx, ng_ng (N2_lt .mul _ _)]
  rw [e1, mul_neg hd n2, neg_mul hb n3]
  exact ⟨rfl, add_ng (N2_lt .mul _ _) (N2_lt .mul _ _) h2⟩
/-- What the law compares, where the product is finite. -/
theorem conj_orders {a b c d pr pi ur ui vr vi : Nat} (hb : b < 18446744073709551616) (hd : d < 18446744073709551616) (p1 : cn pr = MR a b c d) (p2 : cn pi = MI a b c d) (u1 : cn ur = MR a b c d) (u2 : cn ui = MI a b c d) (v1 : cn vr = MR a (ng b) c (ng d)) (v2 : cn vi = MI a (ng b) c (ng d)) (lu1 : ur < 18446744073709551616) (lu : ui < 18446744073709551616) (lv : vi < 18446744073709551616) (hp : (plB pr && plB pi) = true) :
    FloatKind.f64.format.order ur vr = some Ordering.eq ∧ FloatKind.f64.format.order (ng ui) vi = some Ordering.eq := by
  unfold plB at hp
  simp only [Bool.and_eq_true, Bool.not_eq_true'] at hp
  have n1 : nan (MR a b c d) = false := by rw [← p1, nan_cn]; exact hp.1.1
  have n2 : nan (MI a b c d) = false := by rw [← p2, nan_cn]; exact hp.2.1
  obtain ⟨c1, c2⟩ := conj_law hb hd n1 n2
  have e1 : ur = MR a b c d := cn_eq u1 n1
  have e2 : ui = MI a b c d := cn_eq u2 n2
  have e3 : vr = MR a b c d := cn_eq (v1.trans c1) n1
  have nm : nan (MI a (ng b) c (ng d)) = false := by
    rcases c2 with h | ⟨h, _⟩
    · rw [h, nan_ng (e2 ▸ lu)]; exact n2
    · unfold nan; rw [h]; decide
  have e4 : vi = MI a (ng b) c (ng d) := cn_eq v2 nm
  refine ⟨?_, ?_⟩
  · rw [e3, ← e1]; exact order_self lu1 (by rw [e1]; exact n1)
  · rcases c2 with h | ⟨h, h'⟩
    · rw [e4, h, ← e2]; exact order_self (ng_lt lu) (by rw [nan_ng lu, e2]; exact n2)
    · exact order_zero (ng_lt lu) lv (by rw [ng_rung lu, e2]; exact h') (by rw [e4]; exact h)
end Go.Proofs.Ytnmpofjegepmaaa
