/- Memory: what is old is as it was, but for the listed blocks; rows of complex numbers up to NaN; a filter at work. -/
import Derived.Test.YtnmpofjegepmaaaC3
import Derived.Laws.OwnMore
import Derived.Laws.Rows
import Derived.Laws.AppendOwn
namespace Go.Proofs.Ytnmpofjegepmaaa
open Go.RowKit Go.Proofs.Ytnmpofjegepmaaa.Fl

/-- Old memory is as it was, but for the blocks of the list. -/
structure But (qs : List Nat) (w w' : World) : Prop where
  os : w'.os = w.os
  tape : w'.tape = w.tape
  output : w'.output = w.output
  size : w.heap.size ≤ w'.heap.size
  block : ∀ k, k < w.heap.size → k ∉ qs → w'.heap[k]? = w.heap[k]?

section
variable {qs qs' : List Nat} {a b c w w' : World}
theorem But.refl (qs : List Nat) (w : World) : But qs w w := ⟨rfl, rfl, rfl, Nat.le_refl _, fun _ _ _ => rfl⟩
theorem But.trans (h : But qs a b) (k : But qs b c) : But qs a c :=
  ⟨k.os.trans h.os, k.tape.trans h.tape, k.output.trans h.output, Nat.le_trans h.size k.size, fun i hi hq => (k.block i (Nat.lt_of_lt_of_le hi h.size) hq).trans (h.block i hi hq)⟩
theorem But.weak (h : But qs a b) (hs : ∀ k, k < a.heap.size → k ∈ qs → k ∈ qs') : But qs' a b :=
  ⟨h.os, h.tape, h.output, h.size, fun i hi hq => h.block i hi fun hm => hq (hs i hi hm)⟩
theorem But.then (h : But qs a b) (k : But qs' b c) (hs : ∀ i, i < a.heap.size → i ∈ qs' → i ∈ qs) : But qs a c :=
  ⟨k.os.trans h.os, k.tape.trans h.tape, k.output.trans h.output, Nat.le_trans h.size k.size, fun i hi hq => (k.block i (Nat.lt_of_lt_of_le hi h.size) fun hm => hq (hs i hi hm)).trans (h.block i hi hq)⟩
theorem But.of_below (h : Below a.heap.size a b) : But qs a b := ⟨h.os, h.tape, h.output, h.size, fun i hi _ => h.block i hi⟩
theorem But.below (h : But [] a b) : Below a.heap.size a b := ⟨h.os, h.tape, h.output, h.size, fun i hi => h.block i hi (by simp)⟩
theorem But.thenB (h : But qs a b) (k : Below b.heap.size b c) : But qs a c := h.trans (But.of_below k)
theorem But.setCell (h : But qs a b) (p : Addr) (v : Value) (hp : p.block ∈ qs ∨ a.heap.size ≤ p.block) : But qs a (b.setCell p v) :=
  ⟨h.os, h.tape, h.output, by simpa [World.setCell] using h.size, fun i hi hq => (Below.heap_setCell b p v i (by rintro rfl; rcases hp with hp | hp; exact hq hp; omega)).trans (h.block i hi hq)⟩
theorem But.alloc (h : But qs a b) (o : Obj) : But qs a (b.alloc o) :=
  h.trans ⟨rfl, rfl, rfl, by simp, fun k hk _ => Below.heap_alloc b o k hk⟩
theorem But.drewN (h : But qs a b) (n : Nat) : But qs a (b.drewN n) := ⟨h.os, h.tape, h.output, h.size, h.block⟩
theorem But.drew (h : But qs a b) : But qs a b.drew := ⟨h.os, h.tape, h.output, h.size, h.block⟩
theorem But.grown (h : But qs a b) {row : Option Nat} (hg : b.grownBy c row) (hr : ∀ g, row = some g → g ∈ qs ∨ a.heap.size ≤ g) : But qs a c :=
  ⟨hg.os.trans h.os, hg.tape.trans h.tape, hg.output.trans h.output, Nat.le_trans h.size hg.size, fun i hi hq => (hg.block i (Nat.lt_of_lt_of_le hi h.size) (by rintro rfl; rcases hr i rfl with hp | hp; exact hq hp; omega)).trans (h.block i hi hq)⟩
theorem But.heap (h : But qs w w') {k : Nat} {o : Obj} (hk : w.heap[k]? = some o) (hq : k ∉ qs) : w'.heap[k]? = some o :=
  (h.block k (Array.getElem?_eq_some_iff.1 hk).1 hq).trans hk
theorem But.cell (h : But qs w w') {p : Addr} {v : Value} (hp : w.cell? p = some v) (hq : p.block ∉ qs) : w'.cell? p = some v :=
  (World.cell?_of_block (w := w) (h.block p.block (World.block_lt_of_cell? w p hp) hq)).trans hp
theorem But.frozen (h : But qs w w') {p : Addr} {v : Value} (hp : w.cell? p = some v) (hq : p.block ∉ qs) : w'.frozen? p = w.frozen? p :=
  World.frozen?_of_block (w := w) (h.block p.block (World.block_lt_of_cell? w p hp) hq)
end

/-- A cell that holds a complex number, up to NaN. -/
def CV (v : Option Value) (x : C) : Prop := ∃ a : C, v = some (V a) ∧ wf a ∧ ccn a = x

/-- A row of complex numbers, read alone. -/
def RC (w : World) (b o m : Nat) (xs : Nat → C) : Prop := ∀ j, j < m → CV (w.cell? ⟨b, o + j, none⟩) (xs j)
/-- A row of complex numbers in a block that is known whole. -/
def OC (w : World) (b t m : Nat) (xs : Nat → C) : Prop := ∃ cs : Array Value, w.heap[b]? = some (.cells cs t (0, 0)) ∧ m ≤ cs.size ∧ ∀ j, j < m → CV cs[j]? (xs j)

section
variable {w w' : World} {b o m t : Nat} {xs ys : Nat → C} {qs : List Nat}
theorem RC.keep (h : RC w b o m xs) (k : But qs w w') (hb : b ∉ qs) : RC w' b o m xs := fun j hj => by
  obtain ⟨a, h1, h2⟩ := h j hj
  exact ⟨a, k.cell h1 hb, h2⟩
theorem RC.less (h : RC w b o m xs) {n : Nat} (hn : n ≤ m) : RC w b o n xs := fun j hj => h j (by omega)
theorem RC.cut (h : RC w b o m xs) {i n : Nat} (hn : i + n ≤ m) : RC w b (o + i) n (fun j => xs (i + j)) := fun j hj => by
  have := h (i + j) (by omega)
  rwa [← Nat.add_assoc] at this
theorem RC.congr (h : RC w b o m xs) (he : ∀ j, j < m → xs j = ys j) : RC w b o m ys := fun j hj => by rw [← he j hj]; exact h j hj
theorem OC.congr (h : OC w b t m xs) (he : ∀ j, j < m → xs j = ys j) : OC w b t m ys := by
  obtain ⟨cs, h1, h2, h3⟩ := h
  exact ⟨cs, h1, h2, fun j hj => by rw [← he j hj]; exact h3 j hj⟩
theorem OC.keep (h : OC w b t m xs) (k : But qs w w') (hb : b ∉ qs) : OC w' b t m xs := by
  obtain ⟨cs, h1, h2⟩ := h
  exact ⟨cs, k.heap h1 hb, h2⟩
theorem OC.rc (h : OC w b t m xs) : RC w b 0 m xs := fun j hj => by
  obtain ⟨cs, h1, h2, h3⟩ := h
  rw [Nat.zero_add, cell_of_row w b j cs t (0, 0) h1]
  exact h3 j hj
theorem OC.lt (h : OC w b t m xs) : b < w.heap.size := by
  obtain ⟨cs, h1, _⟩ := h
  exact (Array.getElem?_eq_some_iff.1 h1).1
theorem OC.free (h : OC w b t m xs) (j : Nat) : w.frozen? ⟨b, j, none⟩ = false := by
  obtain ⟨cs, h1, _⟩ := h
  simp [World.frozen?, h1]
theorem OC.less (h : OC w b t m xs) {n : Nat} (hn : n ≤ m) : OC w b t n xs := by
  obtain ⟨cs, h1, h2, h3⟩ := h
  exact ⟨cs, h1, by omega, fun j hj => h3 j (by omega)⟩
theorem OC.set_ (h : OC w b t m xs) (i : Nat) {a : C} {x : C} (ha : wf a) (hx : ccn a = x) : OC (w.setCell ⟨b, i, none⟩ (V a)) b t m (fun j => if j = i then x else xs j) := by
  obtain ⟨cs, h1, h2, h3⟩ := h
  refine ⟨cs.setIfInBounds i (V a), ?_, by simpa using h2, fun j hj => ?_⟩
  · simp [World.setCell, Array.getElem?_modify, h1]
  · by_cases e : j = i
    · subst e; simp only [if_true]
      exact ⟨a, by rw [Array.getElem?_setIfInBounds_self_of_lt (by omega)], ha, hx⟩
    · simp only [if_neg e]
      rw [Array.getElem?_setIfInBounds_ne (by omega)]
      exact h3 j hj
end

/-- A filter at work lies at c: its sections at p (five numbers each), its states at q (two each). -/
structure Cas (w : World) (c p q n : Nat) (g : C) (Sc St : Nat → C) : Prop where
  cp : c ≠ p
  cq : c ≠ q
  pq : p ≠ q
  n16 : n ≤ 16
  pl : p < w.heap.size
  blk : ∃ (gr : C) (k1 k2 : Nat), w.heap[c]? = some (.cells #[V gr, .slice (some ⟨p, 0, none⟩) n k1, .slice (some ⟨q, 0, none⟩) n k2] 104 (0, 0)) ∧ wf gr ∧ ccn gr = g ∧ n ≤ k1 ∧ n ≤ k2
  sec : RC w p 0 (n * 5) Sc
  sta : OC w q 71 (n * 2) St

theorem Cas.keep {w w' : World} {c p q n : Nat} {g : C} {Sc St : Nat → C} {qs : List Nat} (h : Cas w c p q n g Sc St) (k : But qs w w') (h1 : c ∉ qs) (h2 : p ∉ qs) (h3 : q ∉ qs) : Cas w' c p q n g Sc St := by
  obtain ⟨gr, k1, k2, hb, r⟩ := h.blk
  exact ⟨h.cp, h.cq, h.pq, h.n16, Nat.lt_of_lt_of_le h.pl k.size, ⟨gr, k1, k2, k.heap hb h1, r⟩, h.sec.keep k h2, h.sta.keep k h3⟩

theorem Cas.cl {w : World} {c p q n : Nat} {g : C} {Sc St : Nat → C} (h : Cas w c p q n g Sc St) : c < w.heap.size := by
  obtain ⟨gr, k1, k2, hb, r⟩ := h.blk
  exact (Array.getElem?_eq_some_iff.1 hb).1
theorem Cas.ql {w : World} {c p q n : Nat} {g : C} {Sc St : Nat → C} (h : Cas w c p q n g Sc St) : q < w.heap.size := h.sta.lt
theorem Cas.keep1 {w w' : World} {c p q n b : Nat} {g : C} {Sc St : Nat → C} (h : Cas w c p q n g Sc St) (k : But [b] w w') (h1 : c ≠ b) (h2 : p ≠ b) (h3 : q ≠ b) : Cas w' c p q n g Sc St := h.keep k (by simpa using h1) (by simpa using h2) (by simpa using h3)

/-- The answers from section to section, and the states behind the step. -/
def Yv (g : C) (Sc St : Nat → C) (x : C) : Nat → C
  | 0 => cmul g x
  | i + 1 => sy (Sc (i * 5)) (St (i * 2)) (Yv g Sc St x i)
def T1 (g : C) (Sc St : Nat → C) (x : C) (i : Nat) : C := st1 (Sc (i * 5 + 1)) (Sc (i * 5 + 3)) (St (i * 2 + 1)) (Yv g Sc St x i) (Yv g Sc St x (i + 1))
def T2 (g : C) (Sc St : Nat → C) (x : C) (i : Nat) : C := st2 (Sc (i * 5 + 2)) (Sc (i * 5 + 4)) (Yv g Sc St x i) (Yv g Sc St x (i + 1))
/-- The states, of which the first k sections' have been stepped. -/
def Tv (g : C) (Sc St : Nat → C) (x : C) (k j : Nat) : C := if j < k * 2 then (if j % 2 = 0 then T1 g Sc St x (j / 2) else T2 g Sc St x (j / 2)) else St j
theorem Tv_zero (g : C) (Sc St : Nat → C) (x : C) (j : Nat) : Tv g Sc St x 0 j = St j := by unfold Tv; rw [if_neg (by omega)]
theorem Tv_at (g : C) (Sc St : Nat → C) (x : C) (k j : Nat) (h : k * 2 ≤ j) : Tv g Sc St x k j = St j := by unfold Tv; rw [if_neg (by omega)]
theorem Tv_succ (g : C) (Sc St : Nat → C) (x : C) (k j : Nat) : Tv g Sc St x (k + 1) j = if j = k * 2 + 1 then T2 g Sc St x k else if j = k * 2 then T1 g Sc St x k else Tv g Sc St x k j := by
  unfold Tv
  by_cases h : j = k * 2 + 1
  · subst h; rw [if_pos (by omega), if_neg (by omega), if_pos rfl]; congr 1; omega
  · by_cases h' : j = k * 2
    · subst h'; rw [if_pos (by omega), if_pos (by omega), if_neg h, if_pos rfl]; congr 1; omega
    · rw [if_neg h, if_neg h']
      by_cases hj : j < k * 2
      · rw [if_pos (by omega), if_pos hj]
      · rw [if_neg (by omega), if_neg hj]

/-! ### Steps do not tell NaNs apart -/
theorem cmul_cc (a b : C) : cmul (ccn a) (ccn b) = cmul a b := by simp only [cmul, ccn, MR, MI, N2_cn]
theorem cadd_cc (a b : C) : cadd (ccn a) (ccn b) = cadd a b := by simp only [cadd, ccn, N2_cn]
theorem csub_cc (a b : C) : csub (ccn a) (ccn b) = csub a b := by simp only [csub, ccn, N2_cn]
theorem ccn_ccn (a : C) : ccn (ccn a) = ccn a := by simp only [ccn, cn_cn]
theorem ccn_cmul (a b : C) : ccn (cmul a b) = cmul a b := by simp only [cmul, ccn, MR, MI, cn_N2]
theorem ccn_cadd (a b : C) : ccn (cadd a b) = cadd a b := by simp only [cadd, ccn, cn_N2]
theorem ccn_csub (a b : C) : ccn (csub a b) = csub a b := by simp only [csub, ccn, cn_N2]
theorem cadd_r (a b : C) : cadd a (ccn b) = cadd a b := by rw [← cadd_cc a, ccn_ccn, cadd_cc]
theorem sy_cc (a b c : C) : sy (ccn a) (ccn b) (ccn c) = sy a b c := by unfold sy; rw [cmul_cc, cadd_r]
theorem st1_cc (a b c d e : C) : st1 (ccn a) (ccn b) (ccn c) (ccn d) (ccn e) = st1 a b c d e := by unfold st1; rw [cmul_cc, cmul_cc, cadd_r]
theorem st2_cc (a b c d : C) : st2 (ccn a) (ccn b) (ccn c) (ccn d) = st2 a b c d := by unfold st2; rw [cmul_cc, cmul_cc]

/-- run.Step, up to NaN. -/
def SQ (b0 b1 b2 a1 a2 s1 s2 x : C) (w : World) (e : Ending) (w' : World) : Prop :=
  ∃ y t1 t2 : C, e = .returned (.tuple #[.complex .f64 y.1 y.2, .agg #[.complex .f64 t1.1 t1.2, .complex .f64 t2.1 t2.2]]) ∧ Below w.heap.size w w' ∧ wf y ∧ wf t1 ∧ wf t2 ∧
    ccn y = sy (ccn b0) (ccn s1) (ccn x) ∧ ccn t1 = st1 (ccn b1) (ccn a1) (ccn s2) (ccn x) (ccn y) ∧ ccn t2 = st2 (ccn b2) (ccn a2) (ccn x) (ccn y)
theorem step_c (b0 b1 b2 a1 a2 s1 s2 x : C) (w : World) :
    Calls Try.prog 71 #[.agg #[.complex .f64 b0.1 b0.2, .complex .f64 b1.1 b1.2, .complex .f64 b2.1 b2.2, .complex .f64 a1.1 a1.2, .complex .f64 a2.1 a2.2], .agg #[.complex .f64 s1.1 s1.2, .complex .f64 s2.1 s2.2], .complex .f64 x.1 x.2] w
      (SQ b0 b1 b2 a1 a2 s1 s2 x w) :=
  (step_t _ _ _ _ _ _ _ _ _ _ _ _ _ _ _ _ w).mono fun e w' ⟨y, t1, t2, h1, h2, h3, h4, h5, h6, h7, h8⟩ =>
    ⟨y, t1, t2, h1, h2, h3, h4, h5, by rw [sy_cc]; exact h6, by rw [st1_cc]; exact h7, by rw [st2_cc]; exact h8⟩

/-! ### Cells, one by one -/
theorem RC.one {w : World} {b m : Nat} {xs : Nat → C} (h : RC w b 0 m xs) (j : Nat) (hj : j < m) : ∃ a : C, w.cell? ⟨b, j, none⟩ = some (.complex .f64 a.1 a.2) ∧ wf a ∧ ccn a = xs j := by
  have := h j hj
  rwa [Nat.zero_add] at this
theorem RC.five {w : World} {b n : Nat} {xs : Nat → C} (h : RC w b 0 (n * 5) xs) (k : Nat) (hk : k < n) : ∃ s0 s1 s2 s3 s4 : C,
    (w.cell? ⟨b, k * 5, none⟩ = some (.complex .f64 s0.1 s0.2) ∧ w.cell? ⟨b, k * 5 + 1, none⟩ = some (.complex .f64 s1.1 s1.2) ∧ w.cell? ⟨b, k * 5 + 2, none⟩ = some (.complex .f64 s2.1 s2.2) ∧
      w.cell? ⟨b, k * 5 + 3, none⟩ = some (.complex .f64 s3.1 s3.2) ∧ w.cell? ⟨b, k * 5 + 4, none⟩ = some (.complex .f64 s4.1 s4.2)) ∧
    Hid (ccn s0 = xs (k * 5) ∧ ccn s1 = xs (k * 5 + 1) ∧ ccn s2 = xs (k * 5 + 2) ∧ ccn s3 = xs (k * 5 + 3) ∧ ccn s4 = xs (k * 5 + 4)) := by
  obtain ⟨s0, a0, _, b0⟩ := h.one (k * 5) (by omega)
  obtain ⟨s1, a1, _, b1⟩ := h.one (k * 5 + 1) (by omega)
  obtain ⟨s2, a2, _, b2⟩ := h.one (k * 5 + 2) (by omega)
  obtain ⟨s3, a3, _, b3⟩ := h.one (k * 5 + 3) (by omega)
  obtain ⟨s4, a4, _, b4⟩ := h.one (k * 5 + 4) (by omega)
  exact ⟨s0, s1, s2, s3, s4, ⟨a0, a1, a2, a3, a4⟩, ⟨b0, b1, b2, b3, b4⟩⟩
theorem OC.two {w : World} {b t n : Nat} {xs : Nat → C} (h : OC w b t (n * 2) xs) (k : Nat) (hk : k < n) : ∃ s0 s1 : C,
    (w.cell? ⟨b, k * 2, none⟩ = some (.complex .f64 s0.1 s0.2) ∧ w.cell? ⟨b, k * 2 + 1, none⟩ = some (.complex .f64 s1.1 s1.2)) ∧
    (w.frozen? ⟨b, k * 2, none⟩ = false ∧ w.frozen? ⟨b, k * 2 + 1, none⟩ = false) ∧
    Hid (ccn s0 = xs (k * 2) ∧ ccn s1 = xs (k * 2 + 1)) := by
  obtain ⟨s0, a0, _, b0⟩ := h.rc.one (k * 2) (by omega)
  obtain ⟨s1, a1, _, b1⟩ := h.rc.one (k * 2 + 1) (by omega)
  exact ⟨s0, s1, ⟨a0, a1⟩, ⟨h.free _, h.free _⟩, ⟨b0, b1⟩⟩
end Go.Proofs.Ytnmpofjegepmaaa
