/- run.Step: one step of a section, up to NaN. -/
import Derived.Test.YtnmpofjegepmaaaC1
import Derived.Below
import Derived.RowKit3
import Derived.Handy
namespace Go.Proofs.Ytnmpofjegepmaaa
open Go.RowKit Go.Proofs.Ytnmpofjegepmaaa.Fl

@[go_sem] theorem run_store_complex (P : Program) (w : World) (a : Addr) (m : Mode) (k : FloatKind) (x y : Nat) : (store a (.complex k x y) m).run P w = stored P w a (.complex k x y) m := run_store P w a _ m rfl
@[go_sem] theorem run_store_float (P : Program) (w : World) (a : Addr) (m : Mode) (k : FloatKind) (x : Nat) : (store a (.float k x) m).run P w = stored P w a (.float k x) m := run_store P w a _ m rfl


/-- A complex number, its parts up to NaN. -/
abbrev C := Nat × Nat
def cmul (a b : C) : C := (MR a.1 a.2 b.1 b.2, MI a.1 a.2 b.1 b.2)
def cadd (a b : C) : C := (N2 .add a.1 b.1, N2 .add a.2 b.2)
def csub (a b : C) : C := (N2 .sub a.1 b.1, N2 .sub a.2 b.2)
def ccn (a : C) : C := (cn a.1, cn a.2)
def wf (a : C) : Prop := a.1 < 18446744073709551616 ∧ a.2 < 18446744073709551616
def V (a : C) : Value := .complex .f64 a.1 a.2
/-- One step of a section. -/
def sy (b0 s1 x : C) : C := cadd (cmul b0 x) s1
def st1 (b1 a1 s2 x y : C) : C := csub (cadd (cmul b1 x) s2) (cmul a1 y)
def st2 (b2 a2 x y : C) : C := csub (cmul b2 x) (cmul a2 y)

theorem Below.drewN {B : Nat} {a w : World} (h : Below B a w) (n : Nat) : Below B a (w.drewN n) := ⟨h.os, h.tape, h.output, h.size, h.block⟩

theorem below_s (w : World) (o1 o2 o3 : Obj) (n : Nat) (a b : Option _) (u v : Value) : Below w.heap.size w ((((((w.alloc o1).alloc o2).alloc o3).drewN n).setCell ⟨w.heap.size + 1 + 1, 0, a⟩ u).setCell ⟨w.heap.size + 1 + 1, 1, b⟩ v) := by
  have h1 : w.heap.size ≤ (w.alloc o1).heap.size := by simp
  have h2 : (w.alloc o1).heap.size ≤ ((w.alloc o1).alloc o2).heap.size := by simp
  exact Below.setCell (Below.setCell (Below.drewN (Below.alloc (Below.alloc (Below.alloc (Below.refl _ _) (Nat.le_refl _) _) h1 _) (Nat.le_trans h1 h2) _) _) (Nat.le_trans (Nat.le_add_right _ 1) (Nat.le_add_right _ 1)) _) (Nat.le_trans (Nat.le_add_right _ 1) (Nat.le_add_right _ 1)) _

def SPost (b0 b1 b2 a1 a2 s1 s2 x : C) (w : World) (e : Ending) (w' : World) : Prop :=
  ∃ y t1 t2 : C, e = .returned (.tuple #[V y, .agg #[V t1, V t2]]) ∧ Below w.heap.size w w' ∧ wf y ∧ wf t1 ∧ wf t2 ∧ ccn y = sy b0 s1 x ∧ ccn t1 = st1 b1 a1 s2 x y ∧ ccn t2 = st2 b2 a2 x y

theorem ccsub {op : BinOp} {x y u v re im : Nat} (h1 : Ar op x u re) (h2 : Ar op y v im) : cn re = N2 op (cn x) (cn u) ∧ cn im = N2 op (cn y) (cn v) := ⟨by rw [h1.2, N2_cn], by rw [h2.2, N2_cn]⟩

theorem s_close {b0 b1 b2 a1 a2 s1 s2 x y t1 t2 p q r u : C} {w w' : World}
    (h1 : Ar .add p.1 s1.1 y.1) (h2 : Ar .add p.2 s1.2 y.2) (h3 : cn p.1 = MR b0.1 b0.2 x.1 x.2) (h4 : cn p.2 = MI b0.1 b0.2 x.1 x.2)
    (i1 : Ar .sub u.1 r.1 t1.1) (i2 : Ar .sub u.2 r.2 t1.2) (i3 : Ar .add q.1 s2.1 u.1) (i4 : Ar .add q.2 s2.2 u.2) (i5 : cn q.1 = MR b1.1 b1.2 x.1 x.2) (i6 : cn q.2 = MI b1.1 b1.2 x.1 x.2) (i7 : cn r.1 = MR a1.1 a1.2 y.1 y.2) (i8 : cn r.2 = MI a1.1 a1.2 y.1 y.2)
    {m n : C} (j1 : Ar .sub m.1 n.1 t2.1) (j2 : Ar .sub m.2 n.2 t2.2) (j3 : cn m.1 = MR b2.1 b2.2 x.1 x.2) (j4 : cn m.2 = MI b2.1 b2.2 x.1 x.2) (j5 : cn n.1 = MR a2.1 a2.2 y.1 y.2) (j6 : cn n.2 = MI a2.1 a2.2 y.1 y.2)
    (hb : Below w.heap.size w w') :
    SPost b0 b1 b2 a1 a2 s1 s2 x w (.returned (.tuple #[.complex .f64 y.1 y.2, .agg #[.complex .f64 t1.1 t1.2, .complex .f64 t2.1 t2.2]])) w' := by
  refine ⟨y, t1, t2, rfl, hb, ⟨h1.1, h2.1⟩, ⟨i1.1, i2.1⟩, ⟨j1.1, j2.1⟩, ?_, ?_, ?_⟩
  · unfold ccn sy cadd cmul; rw [h1.2, h2.2, N2_l h3, N2_l h4]
  · unfold ccn st1 csub cadd cmul; rw [i1.2, i2.2, N2_l (i3.2.trans (N2_l i5)), N2_l (i4.2.trans (N2_l i6)), N2_r i7, N2_r i8]
  · unfold ccn st2 csub cmul; rw [j1.2, j2.2, N2_l j3, N2_l j4, N2_r j5, N2_r j6]

set_option linter.unusedSimpArgs false in
set_option maxHeartbeats 4000000 in
set_option maxRecDepth 100000 in
theorem step_t (b0r b0i b1r b1i b2r b2i a1r a1i a2r a2i s1r s1i s2r s2i xr xi : Nat) (w : World) :
    Calls Try.prog 71 #[.agg #[.complex .f64 b0r b0i, .complex .f64 b1r b1i, .complex .f64 b2r b2i, .complex .f64 a1r a1i, .complex .f64 a2r a2i], .agg #[.complex .f64 s1r s1i, .complex .f64 s2r s2i], .complex .f64 xr xi] w
      (SPost (b0r, b0i) (b1r, b1i) (b2r, b2i) (a1r, a1i) (a2r, a2i) (s1r, s1i) (s2r, s2i) (xr, xi) w) := by
  go_enter Try.func71, Try.ntmps71
  go_wp2
  refine wp_region_noPanic ?_
  refine wp_region_held_drew (S := fun w' => w'.cell? ⟨w.heap.size, 0, none⟩ = some (.complex .f64 b0r b0i) ∧ w'.cell? ⟨w.heap.size, 1, none⟩ = some (.complex .f64 b1r b1i) ∧ w'.cell? ⟨w.heap.size, 2, none⟩ = some (.complex .f64 b2r b2i) ∧ w'.cell? ⟨w.heap.size, 3, none⟩ = some (.complex .f64 a1r a1i) ∧ w'.cell? ⟨w.heap.size, 4, none⟩ = some (.complex .f64 a2r a2i) ∧ w'.cell? ⟨w.heap.size + 1, 0, none⟩ = some (.complex .f64 s1r s1i) ∧ w'.cell? ⟨w.heap.size + 1, 1, none⟩ = some (.complex .f64 s2r s2i)) (by kernel_rfl) ?_ (fun hHeld => ?_)
  · (try dsimp only); simp [*, go_sem, World.cell?_alloc_past]
  (refine wpAnyH_take (i := 0) (oi := _) (v := _) rfl (by decide +kernel) (by decide +kernel) (by decide +kernel) (fun _ _ _ h => h) (Or.inl ⟨by rfl, by (intro w hSw; (try dsimp only at hSw); go_simp; try with_reducible rfl)⟩) (by assumption) ?_; (try simp only [Act.put, List.setIfInBounds_toArray, List.set_cons_zero, List.set_cons_succ, List.getElem_toArray, List.getElem_cons_succ, List.getElem_cons_zero]))
  (refine wpAnyH_take (i := 1) (oi := _) (v := _) rfl (by decide +kernel) (by decide +kernel) (by decide +kernel) (fun _ _ _ h => h) (Or.inl ⟨by rfl, by (intro w hSw; (try dsimp only at hSw); go_simp; try with_reducible rfl)⟩) (by assumption) ?_; (try simp only [Act.put, List.setIfInBounds_toArray, List.set_cons_zero, List.set_cons_succ, List.getElem_toArray, List.getElem_cons_succ, List.getElem_cons_zero]))
  (refine wpAnyH_take (i := 2) (oi := _) (v := _) rfl (by decide +kernel) (by decide +kernel) (by decide +kernel) (fun _ _ _ h => h) (Or.inl ⟨by rfl, by (intro w hSw; (try dsimp only at hSw); go_simp; try with_reducible rfl)⟩) (by assumption) ?_; (try simp only [Act.put, List.setIfInBounds_toArray, List.set_cons_zero, List.set_cons_succ, List.getElem_toArray, List.getElem_cons_succ, List.getElem_cons_zero]))
  (refine wpAnyH_take (i := 4) (oi := _) (v := _) rfl (by decide +kernel) (by decide +kernel) (by decide +kernel) (fun _ _ _ h => h) (Or.inl ⟨by rfl, by (intro w hSw; (try dsimp only at hSw); go_simp; try with_reducible rfl)⟩) (by assumption) ?_; (try simp only [Act.put, List.setIfInBounds_toArray, List.set_cons_zero, List.set_cons_succ, List.getElem_toArray, List.getElem_cons_succ, List.getElem_cons_zero]))
  (refine wpAnyH_take (i := 5) (oi := _) (v := _) rfl (by decide +kernel) (by decide +kernel) (by decide +kernel) (fun _ _ _ h => h) (Or.inl ⟨by rfl, by (intro w hSw; (try dsimp only at hSw); go_simp; try with_reducible rfl)⟩) (by assumption) ?_; (try simp only [Act.put, List.setIfInBounds_toArray, List.set_cons_zero, List.set_cons_succ, List.getElem_toArray, List.getElem_cons_succ, List.getElem_cons_zero]))
  repeat' (first
    | (refine wpAnyH_take (i := 7) (oi := _) (v := _) rfl (by decide +kernel) (by decide +kernel) (by decide +kernel) (fun _ _ _ h => h) (Or.inl ⟨by rfl, by (intro w hSw; (try dsimp only at hSw); go_simp; try with_reducible rfl)⟩) (by assumption) ?_; (try simp only [Act.put, List.setIfInBounds_toArray, List.set_cons_zero, List.set_cons_succ, List.getElem_toArray, List.getElem_cons_succ, List.getElem_cons_zero]))
    | refine wpAnyH_ready (rs := [3]) (by decide +kernel) (by simp) ?_
    | refine wpAnyH_ready (rs := [6]) (by decide +kernel) (by simp) ?_
    | exact AllReadyH.nil
    | (refine AllReadyH.cons (o := _) rfl (fun K hK => ?_) ?_; (first | (go_simp; go_at_call 50; refine (mul_any _ _ _ _ _).mono ?_; rintro e w' ⟨re, im, n, rfl, rfl, l1, l2, e1, e2⟩; go_wp2_with fail) | (go_simp; refine upon_csum _ _ _ _ _ _ (by simp) ?_; intro re im n H1 H2)); refine hK.out _ _ (by (try dsimp only); simp [*, go_sem, World.cell?_alloc_past]) (fun hNew => ?_); clear hK K; clear hHeld; have hHeld := hNew; clear hNew; (try simp only [Act.put, List.setIfInBounds_toArray, List.set_cons_zero, List.set_cons_succ, List.getElem_toArray, List.getElem_cons_succ, List.getElem_cons_zero]))
    | (refine wpAnyH_done (by decide +kernel) ?_ _))
  refine NoPanic.normal ?_
  clear hHeld
  go_wp2
  refine wp_region_noPanic ?_
  refine wp_region_held_drew (S := fun w' => w'.cell? ⟨w.heap.size, 0, none⟩ = some (.complex .f64 b0r b0i) ∧ w'.cell? ⟨w.heap.size, 1, none⟩ = some (.complex .f64 b1r b1i) ∧ w'.cell? ⟨w.heap.size, 2, none⟩ = some (.complex .f64 b2r b2i) ∧ w'.cell? ⟨w.heap.size, 3, none⟩ = some (.complex .f64 a1r a1i) ∧ w'.cell? ⟨w.heap.size, 4, none⟩ = some (.complex .f64 a2r a2i) ∧ w'.cell? ⟨w.heap.size + 1, 0, none⟩ = some (.complex .f64 s1r s1i) ∧ w'.cell? ⟨w.heap.size + 1, 1, none⟩ = some (.complex .f64 s2r s2i)) (by kernel_rfl) ?_ (fun hHeld => ?_)
  · (try dsimp only); simp [*, go_sem, World.cell?_alloc_past]
  (refine wpAnyH_take (i := 0) (oi := _) (v := _) rfl (by decide +kernel) (by decide +kernel) (by decide +kernel) (fun _ _ _ h => h) (Or.inl ⟨by rfl, by (intro w hSw; (try dsimp only at hSw); go_simp; try with_reducible rfl)⟩) (by assumption) ?_; (try simp only [Act.put, List.setIfInBounds_toArray, List.set_cons_zero, List.set_cons_succ, List.getElem_toArray, List.getElem_cons_succ, List.getElem_cons_zero]))
  (refine wpAnyH_take (i := 1) (oi := _) (v := _) rfl (by decide +kernel) (by decide +kernel) (by decide +kernel) (fun _ _ _ h => h) (Or.inl ⟨by rfl, by (intro w hSw; (try dsimp only at hSw); go_simp; try with_reducible rfl)⟩) (by assumption) ?_; (try simp only [Act.put, List.setIfInBounds_toArray, List.set_cons_zero, List.set_cons_succ, List.getElem_toArray, List.getElem_cons_succ, List.getElem_cons_zero]))
  (refine wpAnyH_take (i := 2) (oi := _) (v := _) rfl (by decide +kernel) (by decide +kernel) (by decide +kernel) (fun _ _ _ h => h) (Or.inl ⟨by rfl, by (intro w hSw; (try dsimp only at hSw); go_simp; try with_reducible rfl)⟩) (by assumption) ?_; (try simp only [Act.put, List.setIfInBounds_toArray, List.set_cons_zero, List.set_cons_succ, List.getElem_toArray, List.getElem_cons_succ, List.getElem_cons_zero]))
  (refine wpAnyH_take (i := 3) (oi := _) (v := _) rfl (by decide +kernel) (by decide +kernel) (by decide +kernel) (fun _ _ _ h => h) (Or.inl ⟨by rfl, by (intro w hSw; (try dsimp only at hSw); go_simp; try with_reducible rfl)⟩) (by assumption) ?_; (try simp only [Act.put, List.setIfInBounds_toArray, List.set_cons_zero, List.set_cons_succ, List.getElem_toArray, List.getElem_cons_succ, List.getElem_cons_zero]))
  (refine wpAnyH_take (i := 5) (oi := _) (v := _) rfl (by decide +kernel) (by decide +kernel) (by decide +kernel) (fun _ _ _ h => h) (Or.inl ⟨by rfl, by (intro w hSw; (try dsimp only at hSw); go_simp; try with_reducible rfl)⟩) (by assumption) ?_; (try simp only [Act.put, List.setIfInBounds_toArray, List.set_cons_zero, List.set_cons_succ, List.getElem_toArray, List.getElem_cons_succ, List.getElem_cons_zero]))
  (refine wpAnyH_take (i := 6) (oi := _) (v := _) rfl (by decide +kernel) (by decide +kernel) (by decide +kernel) (fun _ _ _ h => h) (Or.inl ⟨by rfl, by (intro w hSw; (try dsimp only at hSw); go_simp; try with_reducible rfl)⟩) (by assumption) ?_; (try simp only [Act.put, List.setIfInBounds_toArray, List.set_cons_zero, List.set_cons_succ, List.getElem_toArray, List.getElem_cons_succ, List.getElem_cons_zero]))
  (refine wpAnyH_take (i := 8) (oi := _) (v := _) rfl (by decide +kernel) (by decide +kernel) (by decide +kernel) (fun _ _ _ h => h) (Or.inl ⟨by rfl, by (intro w hSw; (try dsimp only at hSw); go_simp; try with_reducible rfl)⟩) (by assumption) ?_; (try simp only [Act.put, List.setIfInBounds_toArray, List.set_cons_zero, List.set_cons_succ, List.getElem_toArray, List.getElem_cons_succ, List.getElem_cons_zero]))
  (refine wpAnyH_take (i := 9) (oi := _) (v := _) rfl (by decide +kernel) (by decide +kernel) (by decide +kernel) (fun _ _ _ h => h) (Or.inl ⟨by rfl, by (intro w hSw; (try dsimp only at hSw); go_simp; try with_reducible rfl)⟩) (by assumption) ?_; (try simp only [Act.put, List.setIfInBounds_toArray, List.set_cons_zero, List.set_cons_succ, List.getElem_toArray, List.getElem_cons_succ, List.getElem_cons_zero]))
  (refine wpAnyH_take (i := 10) (oi := _) (v := _) rfl (by decide +kernel) (by decide +kernel) (by decide +kernel) (fun _ _ _ h => h) (Or.inl ⟨by rfl, by (intro w hSw; (try dsimp only at hSw); go_simp; try with_reducible rfl)⟩) (by assumption) ?_; (try simp only [Act.put, List.setIfInBounds_toArray, List.set_cons_zero, List.set_cons_succ, List.getElem_toArray, List.getElem_cons_succ, List.getElem_cons_zero]))
  (refine wpAnyH_take (i := 13) (oi := _) (v := _) rfl (by decide +kernel) (by decide +kernel) (by decide +kernel) (fun _ _ _ h => h) (Or.inl ⟨by rfl, by (intro w hSw; (try dsimp only at hSw); go_simp; try with_reducible rfl)⟩) (by assumption) ?_; (try simp only [Act.put, List.setIfInBounds_toArray, List.set_cons_zero, List.set_cons_succ, List.getElem_toArray, List.getElem_cons_succ, List.getElem_cons_zero]))
  (refine wpAnyH_take (i := 14) (oi := _) (v := _) rfl (by decide +kernel) (by decide +kernel) (by decide +kernel) (fun _ _ _ h => h) (Or.inl ⟨by rfl, by (intro w hSw; (try dsimp only at hSw); go_simp; try with_reducible rfl)⟩) (by assumption) ?_; (try simp only [Act.put, List.setIfInBounds_toArray, List.set_cons_zero, List.set_cons_succ, List.getElem_toArray, List.getElem_cons_succ, List.getElem_cons_zero]))
  (refine wpAnyH_take (i := 15) (oi := _) (v := _) rfl (by decide +kernel) (by decide +kernel) (by decide +kernel) (fun _ _ _ h => h) (Or.inl ⟨by rfl, by (intro w hSw; (try dsimp only at hSw); go_simp; try with_reducible rfl)⟩) (by assumption) ?_; (try simp only [Act.put, List.setIfInBounds_toArray, List.set_cons_zero, List.set_cons_succ, List.getElem_toArray, List.getElem_cons_succ, List.getElem_cons_zero]))
  (refine wpAnyH_take (i := 17) (oi := _) (v := _) rfl (by decide +kernel) (by decide +kernel) (by decide +kernel) (fun _ _ _ h => h) (Or.inl ⟨by rfl, by (intro w hSw; (try dsimp only at hSw); go_simp; try with_reducible rfl)⟩) (by assumption) ?_; (try simp only [Act.put, List.setIfInBounds_toArray, List.set_cons_zero, List.set_cons_succ, List.getElem_toArray, List.getElem_cons_succ, List.getElem_cons_zero]))
  (refine wpAnyH_take (i := 18) (oi := _) (v := _) rfl (by decide +kernel) (by decide +kernel) (by decide +kernel) (fun _ _ _ h => h) (Or.inl ⟨by rfl, by (intro w hSw; (try dsimp only at hSw); go_simp; try with_reducible rfl)⟩) (by assumption) ?_; (try simp only [Act.put, List.setIfInBounds_toArray, List.set_cons_zero, List.set_cons_succ, List.getElem_toArray, List.getElem_cons_succ, List.getElem_cons_zero]))
  (refine wpAnyH_take (i := 19) (oi := _) (v := _) rfl (by decide +kernel) (by decide +kernel) (by decide +kernel) (fun _ _ _ h => h) (Or.inl ⟨by rfl, by (intro w hSw; (try dsimp only at hSw); go_simp; try with_reducible rfl)⟩) (by assumption) ?_; (try simp only [Act.put, List.setIfInBounds_toArray, List.set_cons_zero, List.set_cons_succ, List.getElem_toArray, List.getElem_cons_succ, List.getElem_cons_zero]))
  repeat' (first
    | (refine wpAnyH_take (i := 22) (oi := _) (v := _) rfl (by decide +kernel) (by decide +kernel) (by decide +kernel) (fun _ _ _ h => h) (Or.inl ⟨by rfl, by (intro w hSw; (try dsimp only at hSw); go_simp; try with_reducible rfl)⟩) (by assumption) ?_; (try simp only [Act.put, List.setIfInBounds_toArray, List.set_cons_zero, List.set_cons_succ, List.getElem_toArray, List.getElem_cons_succ, List.getElem_cons_zero]))
    | (refine wpAnyH_take (i := 23) (oi := _) (v := _) rfl (by decide +kernel) (by decide +kernel) (by decide +kernel) (fun _ _ _ h => h) (Or.inl ⟨by rfl, by (intro w hSw; (try dsimp only at hSw); go_simp; try with_reducible rfl)⟩) (by assumption) ?_; (try simp only [Act.put, List.setIfInBounds_toArray, List.set_cons_zero, List.set_cons_succ, List.getElem_toArray, List.getElem_cons_succ, List.getElem_cons_zero]))
    | refine wpAnyH_ready (rs := [4]) (by decide +kernel) (by simp) ?_
    | refine wpAnyH_ready (rs := [7, 11]) (by decide +kernel) (by simp) ?_
    | refine wpAnyH_ready (rs := [11]) (by decide +kernel) (by simp) ?_
    | refine wpAnyH_ready (rs := [12, 16]) (by decide +kernel) (by simp) ?_
    | refine wpAnyH_ready (rs := [12, 20]) (by decide +kernel) (by simp) ?_
    | refine wpAnyH_ready (rs := [12, 21]) (by decide +kernel) (by simp) ?_
    | refine wpAnyH_ready (rs := [12]) (by decide +kernel) (by simp) ?_
    | refine wpAnyH_ready (rs := [16]) (by decide +kernel) (by simp) ?_
    | refine wpAnyH_ready (rs := [20]) (by decide +kernel) (by simp) ?_
    | refine wpAnyH_ready (rs := [21]) (by decide +kernel) (by simp) ?_
    | refine wpAnyH_ready (rs := [24]) (by decide +kernel) (by simp) ?_
    | refine wpAnyH_ready (rs := [7, 16]) (by decide +kernel) (by simp) ?_
    | refine wpAnyH_ready (rs := [7, 20]) (by decide +kernel) (by simp) ?_
    | refine wpAnyH_ready (rs := [7, 21]) (by decide +kernel) (by simp) ?_
    | refine wpAnyH_ready (rs := [7]) (by decide +kernel) (by simp) ?_
    | exact AllReadyH.nil
    | (refine AllReadyH.cons (o := _) rfl (fun K hK => ?_) ?_; (first | (go_simp; go_at_call 50; refine (mul_any _ _ _ _ _).mono ?_; rintro e w' ⟨re, im, n, rfl, rfl, l1, l2, e1, e2⟩; go_wp2_with fail) | (go_simp; refine upon_csum _ _ _ _ _ _ (by simp) ?_; intro re im n H1 H2) | go_simp); refine hK.out _ _ (by (try dsimp only); simp [*, go_sem, World.cell?_alloc_past]) (fun hNew => ?_); clear hK K; clear hHeld; have hHeld := hNew; clear hNew; (try simp only [Act.put, List.setIfInBounds_toArray, List.set_cons_zero, List.set_cons_succ, List.getElem_toArray, List.getElem_cons_succ, List.getElem_cons_zero]))
    | (refine wpAnyH_done (by decide +kernel) ?_ _; refine NoPanic.normal ?_; (try simp only [Exit.then]); go_at_K; go_wp2; go_returns; refine s_close (p := (_, _)) (q := (_, _)) (r := (_, _)) (u := (_, _)) (m := (_, _)) (n := (_, _)) (y := (_, _)) (t1 := (_, _)) (t2 := (_, _)) (by assumption) (by assumption) (by assumption) (by assumption) (by assumption) (by assumption) (by assumption) (by assumption) (by assumption) (by assumption) (by assumption) (by assumption) (by assumption) (by assumption) (by assumption) (by assumption) (by assumption) (by assumption) ?_; exact below_s _ _ _ _ _ _ _ _ _))
end Go.Proofs.Ytnmpofjegepmaaa
