/- The awake filter of layer 19. -/
import Derived.Test.YtnmpofjegepmaaaG7
import Derived.Handy
namespace Go.Proofs.Ytnmpofjegepmaaa
open Go.RowKit Go.Proofs.Ytnmpofjegepmaaa.Fl Go.Proofs.Ytnmpofjegepmaaa.Pt

set_option linter.unusedSimpArgs false in
set_option maxHeartbeats 1000000 in
set_option maxRecDepth 100000 in
theorem half_flt (w : World) : Calls Try.prog 72 #[] w fun e w' => ∃ b, e = .returned (.agg #[.complex .f64 4607182418800017408 0, .slice (some ⟨b, 0, none⟩) 1 1]) ∧ RC w' b 0 (1 * 5) hSec ∧ w.heap.size ≤ b ∧ But [] w w' := by
  go_enter Try.func72, Try.ntmps72
  go_wp2_with fail
  have hrc : ∀ W : World, RC (W.alloc (.cells #[.complex .f64 4607182418800017408 0, .complex .f64 0 0, .complex .f64 0 0, .complex .f64 13826050856027422720 0, .complex .f64 0 0] 33)) W.heap.size 0 (1 * 5) hSec := by
    intro W j hj
    have : j = 0 ∨ j = 1 ∨ j = 2 ∨ j = 3 ∨ j = 4 := by omega
    rcases this with rfl | rfl | rfl | rfl | rfl
    · exact ⟨ONE, by simp [go_sem, V, ONE], by simp [wf, ONE, Z0, hSec], by decide⟩
    · exact ⟨Z0, by simp [go_sem, V, Z0], by simp [wf, ONE, Z0, hSec], by decide⟩
    · exact ⟨Z0, by simp [go_sem, V, Z0], by simp [wf, ONE, Z0, hSec], by decide⟩
    · exact ⟨hSec 3, by simp [go_sem, V, hSec], by simp [wf, ONE, Z0, hSec], by decide⟩
    · exact ⟨Z0, by simp [go_sem, V, Z0], by simp [wf, Z0], by decide⟩
  have hr := hrc (w.alloc (.cells #[.complex .f64 4607182418800017408 0, .slice (some ⟨w.heap.size + 1, 0, none⟩) 1 1] 28))
  have hbt : But [] w ((w.alloc (.cells #[.complex .f64 4607182418800017408 0, .slice (some ⟨w.heap.size + 1, 0, none⟩) 1 1] 28)).alloc (.cells #[.complex .f64 4607182418800017408 0, .complex .f64 0 0, .complex .f64 0 0, .complex .f64 13826050856027422720 0, .complex .f64 0 0] 33)) := ((But.refl _ _).alloc _).alloc _
  have hsz : (w.alloc (.cells #[.complex .f64 4607182418800017408 0, .slice (some ⟨w.heap.size + 1, 0, none⟩) 1 1] 28)).heap.size = w.heap.size + 1 := by simp
  rw [hsz] at hr
  go_returns
  exact ⟨w.heap.size + 1, rfl, hr, by omega, hbt⟩

theorem least_any (w : World) : Calls Try.prog 73 #[] w fun e w' => e = .returned (.float .f64 4503599627370496) ∧ w' = w := by
  go_enter Try.func73, Try.ntmps73
  go_wp2
  go_ret
  exact ⟨rfl, rfl⟩

def LEAST : C := (4503599627370496, 0)
def lxs (j : Nat) : C := if j = 0 then LEAST else Z0
theorem a_y : ∀ j, j < 2 → qYs true false false 1 ONE hSec (fun _ => Z0) lxs j = lxs j := by decide +kernel
theorem a_n : qNs true false false 1 ONE hSec (fun _ => Z0) lxs 2 = 1 := by decide +kernel
end Go.Proofs.Ytnmpofjegepmaaa
