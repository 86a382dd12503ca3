/- GuardFixed: closed facts on what is answered. -/
import Derived.Test.YtnmpofjegepmaaaDoorB2
namespace Go.Proofs.YtnmpofjegepmaaaDoor
open Go.RowKit Go.Proofs.YtnmpofjegepmaaaDoor.Fl Go.Proofs.YtnmpofjegepmaaaDoor.Pt

def MX : C := (9218868437227405311, 0)
def NQ : Nat := 9221120237041090561
theorem x_y : ∀ j, j < 2 → qYs false true false 1 ONE hSec (fun _ => Z0) (fun _ => MX) j = MX := by decide +kernel
theorem x_n : qNs false true false 1 ONE hSec (fun _ => Z0) (fun _ => MX) 2 = 2 := by decide +kernel
theorem x_s : qSs false true false 1 ONE hSec (fun _ => Z0) (fun _ => MX) 2 0 = ccn (9218868437227405311, NQ) := by decide +kernel
theorem o_y : (qYs false false false 1 ONE hSec (fun _ => Z0) lxs 1).1 = 2251799813685248 := by decide +kernel
theorem b_y : qYs true true true 0 (4611686018427387904, 0) (fun _ => Z0) (fun _ => Z0) (fun _ => (1, 9218868437227405312)) 0 = ccn (NQ, 9218868437227405312) := by decide +kernel
theorem b_n : qNs true true true 0 (4611686018427387904, 0) (fun _ => Z0) (fun _ => Z0) (fun _ => (1, 9218868437227405312)) 1 = 0 := by decide +kernel
theorem fl_1 : clF true false false 1 = 0 ∧ clF true false false 9223389629040820224 = 9223372036854775808 ∧ clN true false false (1, 9223389629040820224) = 2 := by decide +kernel
theorem fl_2 : clF false true false 18442240474082181120 = 18442240474082181119 ∧ clF false true false 1 = 1 ∧ clN false true false (18442240474082181120, 1) = 1 := by decide +kernel
theorem fl_3 : clF false false true 9221120237041090561 = 0 ∧ clF false false true 9218868437227405312 = 9218868437227405312 ∧ clN false false true (9221120237041090561, 9218868437227405312) = 1 := by decide +kernel
theorem fl_4 : clF false false false 9221120237041090561 = 9221120237041090561 ∧ clF false false false 9218868437227405312 = 9218868437227405312 ∧ clN false false false (9221120237041090561, 9218868437227405312) = 0 := by decide +kernel
theorem mx_rc (W : World) : RC (W.alloc (.cells #[.complex .f64 9218868437227405311 0, .complex .f64 9218868437227405311 0] 26)) W.heap.size 0 2 (fun _ => MX) := by
  intro j hj
  have : j = 0 ∨ j = 1 := by omega
  rcases this with rfl | rfl
  · exact ⟨MX, by simp [go_sem, V, MX], by simp [wf, MX], by decide⟩
  · exact ⟨MX, by simp [go_sem, V, MX], by simp [wf, MX], by decide⟩
/-- The coefficients of 'many': noughts, but for one that is no number. -/
def manySec (j : Nat) : C := if j = 13 then ccn (0, NQ) else Z0
theorem many_fin : ∀ j, j < 13 → FinC (manySec j) := by
  intro j hj
  have : manySec j = Z0 := by unfold manySec; rw [if_neg (by omega)]
  rw [this]; unfold FinC; decide +kernel
theorem many_bad : finB (manySec 13).1 (manySec 13).2 = false := by decide +kernel
theorem mk17 (W : World) : ∃ M : Array Value, (Instr.makeSlice 38 (.int .i64 17) (.int .i64 17)).run Tryd.prog W = .ok (.slice (some ⟨W.heap.size, 0, none⟩) 17 17) (W.alloc (.cells M 52)) ∧ OC (W.alloc (.cells M 52)) W.heap.size 52 85 (fun _ => Z0) := by
  obtain ⟨i, hi, hz, hs, hby⟩ := info_parts Tryd.info52
  have hr := run_make (P := Tryd.prog) W 38 52 i _ Tryd.underlying38 hi hz .i64 .i64 17 17 (by omega) (Int.le_refl _) (by rw [hby]; omega) (by omega)
  rw [hs] at hr
  refine ⟨_, hr, _, heap_alloc_new _ _, by simp [size_madeCells], fun j hj => ?_⟩
  have h : (madeCells (Value.agg #[.complex .f64 0 0, .complex .f64 0 0, .complex .f64 0 0, .complex .f64 0 0, .complex .f64 0 0]).cells (Int.toNat 17 * 5))[j]? = some (.complex .f64 0 0) := by
    have h1 : Int.toNat 17 * 5 = 85 := by decide
    rw [h1]
    have h2 : (madeCells (Value.agg #[.complex .f64 0 0, .complex .f64 0 0, .complex .f64 0 0, .complex .f64 0 0, .complex .f64 0 0]).cells 85)[j]? = some ((Value.agg #[.complex .f64 0 0, .complex .f64 0 0, .complex .f64 0 0, .complex .f64 0 0, .complex .f64 0 0]).cells[j % (Value.agg #[.complex .f64 0 0, .complex .f64 0 0, .complex .f64 0 0, .complex .f64 0 0, .complex .f64 0 0]).cells.size]!) := by simp [madeCells, hj]
    rw [h2]
    have h3 : (Value.agg #[.complex .f64 0 0, .complex .f64 0 0, .complex .f64 0 0, .complex .f64 0 0, .complex .f64 0 0]).cells = #[.complex .f64 0 0, .complex .f64 0 0, .complex .f64 0 0, .complex .f64 0 0, .complex .f64 0 0] := by rfl
    rw [h3]
    have : j % 5 = 0 ∨ j % 5 = 1 ∨ j % 5 = 2 ∨ j % 5 = 3 ∨ j % 5 = 4 := by omega
    rcases this with h | h | h | h | h <;> simp [h]
  rw [h]; exact cv_z0
theorem mk17w (W : World) : ∃ W', (Instr.makeSlice 38 (.int .i64 17) (.int .i64 17)).run Tryd.prog W = .ok (.slice (some ⟨W.heap.size, 0, none⟩) 17 17) W' ∧ But [] W W' ∧ W.heap.size < W'.heap.size ∧ OC W' W.heap.size 52 85 (fun _ => Z0) := by
  obtain ⟨M, h1, h2⟩ := mk17 W
  exact ⟨_, h1, (But.refl _ _).alloc _, by simp, h2⟩
end Go.Proofs.YtnmpofjegepmaaaDoor
