/- What the door keeps of the filter without its Step: frames, rows of noughts, what is along a list. -/
import Derived.Test.YtnmpofjegepmaaaDoorM
import Derived.LoopTactic
import Derived.Deep.Cut
import Derived.Deep.OwnRows
import Derived.Outline
namespace Go.Proofs.YtnmpofjegepmaaaDoor
open Go.RowKit Go.Proofs.YtnmpofjegepmaaaDoor.Fl

theorem frozen_later {w wx : World} {a : Addr} {v : Value} (hb : Below w.heap.size w wx) (h : w.cell? a = some v) (f : w.frozen? a = false) : wx.frozen? a = false :=
  (hb.frozen (World.block_lt_of_cell? _ _ h)).trans f

/-- One sample: the answer; what is kept behind it. -/
def stepY (n : Nat) (g : C) (Sc St : Nat → C) (x : C) : C := Yv g Sc St x n
def stepS (n : Nat) (g : C) (Sc St : Nat → C) (x : C) : Nat → C := Tv g Sc St x n
/-- The answers and the states along a list. -/
def Ss (n : Nat) (g : C) (Sc St : Nat → C) (xs : Nat → C) : Nat → Nat → C
  | 0 => St
  | i + 1 => stepS n g Sc (Ss n g Sc St xs i) (xs i)
def Ys (n : Nat) (g : C) (Sc St : Nat → C) (xs : Nat → C) (i : Nat) : C := stepY n g Sc (Ss n g Sc St xs i) (xs i)
theorem Ss_add (n : Nat) (g : C) (Sc St : Nat → C) (xs : Nat → C) (i j : Nat) : Ss n g Sc St xs (i + j) = Ss n g Sc (Ss n g Sc St xs i) (fun k => xs (i + k)) j := by
  induction j with
  | zero => rfl
  | succ j ih => rw [← Nat.add_assoc, Ss, ih]; rfl
theorem Ys_add (n : Nat) (g : C) (Sc St : Nat → C) (xs : Nat → C) (i j : Nat) : Ys n g Sc St xs (i + j) = Ys n g Sc (Ss n g Sc St xs i) (fun k => xs (i + k)) j := by
  unfold Ys; rw [Ss_add]
theorem Ss_congr {n : Nat} {g : C} {Sc St : Nat → C} {xs ys : Nat → C} {i : Nat} (h : ∀ j, j < i → xs j = ys j) : Ss n g Sc St xs i = Ss n g Sc St ys i := by
  induction i with
  | zero => rfl
  | succ i ih => rw [Ss, Ss, ih fun j hj => h j (by omega), h i (by omega)]
theorem Ys_congr {n : Nat} {g : C} {Sc St : Nat → C} {xs ys : Nat → C} {i : Nat} (h : ∀ j, j ≤ i → xs j = ys j) : Ys n g Sc St xs i = Ys n g Sc St ys i := by
  unfold Ys; rw [Ss_congr fun j hj => h j (by omega), h i (Nat.le_refl _)]
theorem Tryd.info26 : (Tryd.prog.info? 26).map (fun i => (i.zero, i.size, i.bytes)) = some (some (.complex .f64 0 0), 1, 16) := by kernel_rfl
def Z0 : C := (0, 0)
theorem cv_z0 : CV (some (.complex .f64 0 0)) Z0 := ⟨(0, 0), rfl, by simp [wf], by decide⟩
theorem cv_zero {z : Array Value} (hz : z = #[.complex .f64 0 0] ∨ z = #[.complex .f64 0 0, .complex .f64 0 0]) {n j : Nat} (hj : j < n) : CV (madeCells z n)[j]? Z0 := by
  have h : (madeCells z n)[j]? = some (z[j % z.size]!) := by simp [madeCells, hj]
  rw [h]
  rcases hz with rfl | rfl
  · have : j % 1 = 0 := by omega
    simp [this]; exact cv_z0
  · have : j % 2 = 0 ∨ j % 2 = 1 := by omega
    rcases this with h | h <;> simp [h] <;> exact cv_z0
theorem zeros_oc (w : World) (t n : Nat) {z : Array Value} (hz : z = #[.complex .f64 0 0] ∨ z = #[.complex .f64 0 0, .complex .f64 0 0]) : OC (w.alloc (.cells (madeCells z n) t)) w.heap.size t n (fun _ => Z0) :=
  ⟨_, heap_alloc_new _ _, by simp [size_madeCells], fun _ hj => cv_zero hz hj⟩

end Go.Proofs.YtnmpofjegepmaaaDoor
