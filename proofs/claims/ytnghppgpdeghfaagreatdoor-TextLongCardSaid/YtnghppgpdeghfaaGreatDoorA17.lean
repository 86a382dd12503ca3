/- text.read. -/
import Derived.Test.YtnghppgpdeghfaaGreatDoorA16
namespace Go.Proofs.YtnghppgpdeghfaaGreatDoor
open Go.RowKit Go.Proofs.YtnghppgpdeghfaaGreatDoor.Fl Go.Proofs.YtnghppgpdeghfaaGreatDoor.Pt Go.Proofs.YtnghppgpdeghfaaGreatDoor.Tx

/-- What read answers. -/
abbrev RdA (b c : Nat) : Ending := .returned (.tuple #[.int .i64 (b : Int), .int .i64 (c : Int)])
theorem push_at (h : Array Obj) (a : Obj) (n : Nat) (e : n = h.size) : (h.push a)[n]? = some a := by subst e; exact Array.getElem?_push_size
theorem push_lo (h : Array Obj) (a : Obj) (n : Nat) (e : n < h.size) : (h.push a)[n]? = h[n]? := Array.getElem?_push_lt e |>.trans (Array.getElem?_eq_getElem e).symm
theorem at0 (W : World) (a b c : Obj) : (((W.alloc a).alloc b).alloc c).heap[W.heap.size]? = some a := by
  show (((W.heap.push a).push b).push c)[_]? = _
  rw [push_lo _ _ _ (by simp; omega), push_lo _ _ _ (by simp), push_at _ _ _ rfl]
theorem at1 (W : World) (a b c : Obj) : (((W.alloc a).alloc b).alloc c).heap[W.heap.size + 1]? = some b := by
  show (((W.heap.push a).push b).push c)[_]? = _
  rw [push_lo _ _ _ (by simp), push_at _ _ _ (by simp)]
theorem at2 (W : World) (a b c : Obj) : (((W.alloc a).alloc b).alloc c).heap[W.heap.size + 1 + 1]? = some c := by
  show (((W.heap.push a).push b).push c)[_]? = _
  rw [push_at _ _ _ (by simp)]

theorem end_more (R a : Nat) (s : ByteArray) (w : World) (h : Rdr w R s a) (ha : a < s.size) : Calls Tryz.prog 47 #[.pointer (some ⟨R, 0, none⟩)] w fun e w' => But [] w w' ∧ e = Fa a 12 :=
  (end_any R a s w h).mono fun _ _ ⟨h1, h2⟩ => ⟨h1, h2.elim (fun h => h.2) fun h => absurd ha h.1⟩
theorem end_ok (R a : Nat) (s : ByteArray) (w : World) (h : Rdr w R s a) (ha : ¬ a < s.size) : Calls Tryz.prog 47 #[.pointer (some ⟨R, 0, none⟩)] w fun e w' => But [] w w' ∧ e = .returned (.tuple #[]) :=
  (end_any R a s w h).mono fun _ _ ⟨h1, h2⟩ => ⟨h1, h2.elim (fun h => absurd h.1 ha) fun h => h.2⟩
set_option linter.unusedSimpArgs false in
set_option maxRecDepth 100000 in
set_option maxHeartbeats 2000000 in
theorem read_long (s : ByteArray) (W : World) (v : Value) (hs : 65536 < s.size) : Calls Tryz.prog 20 #[.string s, v] W fun e w' => e = RdA 0 2 ∧ But [] W w' := by
  have t1 : decide ((s.size : Int) > 65536) = true := by simp; omega
  go_enter_defers Tryz.func20, Tryz.ntmps20
  go_wp2_with fail
  simp [bodyPostD, Leaves, settle, results, Tryz.results20, go_sem]
  exact ((But.refl _ _).alloc _).alloc _

set_option linter.unusedSimpArgs false in
set_option maxRecDepth 100000 in
set_option maxHeartbeats 2000000 in
theorem read_no (C : Nat) (s : ByteArray) (W : World) (hs : s.size ≤ 65536) (hC : C < W.heap.size) (b n : Nat) (hc : ∀ w, But [] W w → w.heap.size = W.heap.size + 3 → Rdr w (W.heap.size + 1 + 1) s 0 → Calls Tryz.prog 21 #[.pointer (some ⟨W.heap.size + 1 + 1, 0, none⟩), .pointer (some ⟨C, 0, none⟩)] w fun e w' => But [W.heap.size + 1 + 1, C] w w' ∧ e = Fa b n) :
    Calls Tryz.prog 20 #[.string s, .func (Fn.func 21) #[] #[.pointer (some ⟨C, 0, none⟩)]] W fun e w' => e = RdA b n ∧ But [C] W w' := by
  have hmf : ∀ (fn : Fn) (first cap : Array Value) (w : World), (Instr.makeFunc fn first cap).run Tryz.prog w = .ok (.func fn first cap) w := fun _ _ _ _ => rfl
  have t1 : decide ((s.size : Int) > 65536) = false := by simp; omega
  obtain ⟨U, hU⟩ : ∃ U, U = (((W.alloc (.cells #[.int .i64 0] 3)).alloc (.cells #[.int .i64 0] 23)).alloc (.cells #[.string s, .int .i64 0] 70)) := ⟨_, rfl⟩
  have u0 : But [] W U := hU ▸ (((But.refl [] W).alloc _).alloc _).alloc _
  have uS : U.heap.size = W.heap.size + 3 := by rw [hU]; simp
  have uA : U.heap[W.heap.size]? = some (.cells #[.int .i64 0] 3 (0, 0)) := by rw [hU]; exact at0 _ _ _ _
  have uE : U.heap[W.heap.size + 1]? = some (.cells #[.int .i64 0] 23 (0, 0)) := by rw [hU]; exact at1 _ _ _ _
  have uR : Rdr U (W.heap.size + 1 + 1) s 0 := by rw [hU]; exact at2 _ _ _ _
  have hcU := hc U u0 uS uR
  clear hc
  go_enter_defers Tryz.func20, Tryz.ntmps20
  go_wp2_with (go_at_call 21; rw [← hU]; refine hcU.mono ?_; rintro e w1 ⟨hb, he⟩; subst he; simp only [Fa])
  have hb' : But [C, W.heap.size + 1 + 1] U w1 := hb.weak (by simp; omega)
  have bA := hb'.heap uA (by simp; omega)
  have bE := hb'.heap uE (by simp; omega)
  refine leaves_cons (f := 46) (args := #[.pointer (some ⟨W.heap.size, 0, none⟩), .pointer (some ⟨W.heap.size + 1, 0, none⟩)]) (by simp) (by simp [go_sem]) ?_
  refine (catch_panicking W.heap.size (W.heap.size + 1) b n [] _ bA bE (by omega)).mono ?_
  rintro e u' w3 ⟨rfl, rfl, h3, zA, zE⟩
  have c3 : w3.cell? ⟨W.heap.size, 0, none⟩ = some (.int .i64 (b : Int)) := by rw [cell_of_row w3 _ 0 _ _ _ zA]; rfl
  have c4 : w3.cell? ⟨W.heap.size + 1, 0, none⟩ = some (.int .i64 (n : Int)) := by rw [cell_of_row w3 _ 0 _ _ _ zE]; rfl
  simp [Leaves, settle, results, Tryz.results20, go_sem, c3, c4]
  exact ((u0.weak (qs' := [C]) (by simp)).then hb' (by simp; omega)).then h3 (by simp; omega)

set_option linter.unusedSimpArgs false in
set_option maxRecDepth 100000 in
set_option maxHeartbeats 2000000 in
theorem read_more (C : Nat) (s : ByteArray) (W : World) (hs : s.size ≤ 65536) (hC : C < W.heap.size) (c : Nat) (hcs : c < s.size) (hc : ∀ w, But [] W w → w.heap.size = W.heap.size + 3 → Rdr w (W.heap.size + 1 + 1) s 0 → Calls Tryz.prog 21 #[.pointer (some ⟨W.heap.size + 1 + 1, 0, none⟩), .pointer (some ⟨C, 0, none⟩)] w fun e w' => But [W.heap.size + 1 + 1, C] w w' ∧ e = .returned (.tuple #[]) ∧ Rdr w' (W.heap.size + 1 + 1) s c) :
    Calls Tryz.prog 20 #[.string s, .func (Fn.func 21) #[] #[.pointer (some ⟨C, 0, none⟩)]] W fun e w' => e = RdA c 12 ∧ But [C] W w' := by
  have hmf : ∀ (fn : Fn) (first cap : Array Value) (w : World), (Instr.makeFunc fn first cap).run Tryz.prog w = .ok (.func fn first cap) w := fun _ _ _ _ => rfl
  have t1 : decide ((s.size : Int) > 65536) = false := by simp; omega
  obtain ⟨U, hU⟩ : ∃ U, U = (((W.alloc (.cells #[.int .i64 0] 3)).alloc (.cells #[.int .i64 0] 23)).alloc (.cells #[.string s, .int .i64 0] 70)) := ⟨_, rfl⟩
  have u0 : But [] W U := hU ▸ (((But.refl [] W).alloc _).alloc _).alloc _
  have uS : U.heap.size = W.heap.size + 3 := by rw [hU]; simp
  have uA : U.heap[W.heap.size]? = some (.cells #[.int .i64 0] 3 (0, 0)) := by rw [hU]; exact at0 _ _ _ _
  have uE : U.heap[W.heap.size + 1]? = some (.cells #[.int .i64 0] 23 (0, 0)) := by rw [hU]; exact at1 _ _ _ _
  have uR : Rdr U (W.heap.size + 1 + 1) s 0 := by rw [hU]; exact at2 _ _ _ _
  have hcU := hc U u0 uS uR
  clear hc
  go_enter_defers Tryz.func20, Tryz.ntmps20
  go_wp2_with (first | (go_at_call 21; rw [← hU]; refine hcU.mono ?_; rintro e w1 ⟨hb, rfl, hr⟩) | (go_at_call 47; refine (end_more _ c s _ hr hcs).mono ?_; rintro e w2 ⟨hb2, he⟩; subst he; simp only [Fa]))
  have hb' : But [C, W.heap.size + 1 + 1] U w2 := (hb.weak (by simp; omega)).trans (hb2.weak (by simp))
  have bA := hb'.heap uA (by simp; omega)
  have bE := hb'.heap uE (by simp; omega)
  refine leaves_cons (f := 46) (args := #[.pointer (some ⟨W.heap.size, 0, none⟩), .pointer (some ⟨W.heap.size + 1, 0, none⟩)]) (by simp) (by simp [go_sem]) ?_
  refine (catch_panicking W.heap.size (W.heap.size + 1) c 12 [] _ bA bE (by omega)).mono ?_
  rintro e u' w3 ⟨rfl, rfl, h3, zA, zE⟩
  have c3 : w3.cell? ⟨W.heap.size, 0, none⟩ = some (.int .i64 (c : Int)) := by rw [cell_of_row w3 _ 0 _ _ _ zA]; rfl
  have c4 : w3.cell? ⟨W.heap.size + 1, 0, none⟩ = some (.int .i64 12) := by rw [cell_of_row w3 _ 0 _ _ _ zE]; rfl
  simp [Leaves, settle, results, Tryz.results20, go_sem, c3, c4]
  exact ((u0.weak (qs' := [C]) (by simp)).then hb' (by simp; omega)).then h3 (by simp; omega)

/-- Two new variables, both set to nought. -/
theorem two_zero (A E : Nat) (w : World) (hn : A ≠ E) (hA : w.heap[A]? = some (.cells #[.int .i64 0] 3 (0, 0))) (hE : w.heap[E]? = some (.cells #[.int .i64 0] 23 (0, 0))) :
    let w' := (w.setCell ⟨A, 0, none⟩ (.int .i64 0)).setCell ⟨E, 0, none⟩ (.int .i64 0)
    w'.heap[A]? = some (.cells #[.int .i64 0] 3 (0, 0)) ∧ w'.heap[E]? = some (.cells #[.int .i64 0] 23 (0, 0)) ∧ But [A, E] w w' := by
  refine ⟨(Below.heap_setCell (w.setCell ⟨A, 0, none⟩ (.int .i64 0)) ⟨E, 0, none⟩ (.int .i64 0) A hn).trans (blk_set w A 0 _ 3 _ hA), blk_set (w.setCell ⟨A, 0, none⟩ (.int .i64 0)) E 0 _ 23 _ ((Below.heap_setCell w ⟨A, 0, none⟩ (.int .i64 0) E (Ne.symm hn)).trans hE), ?_⟩
  exact ((But.refl _ w).setCell _ _ (.inl (by simp))).setCell _ _ (.inl (by simp))
theorem two_cells (A E : Nat) (w : World) (hn : A ≠ E) (hA : w.heap[A]? = some (.cells #[.int .i64 0] 3 (0, 0))) (hE : w.heap[E]? = some (.cells #[.int .i64 0] 23 (0, 0))) :
    w.cell? ⟨A, 0, none⟩ = some (.int .i64 0) ∧ (w.setCell ⟨A, 0, none⟩ (.int .i64 0)).cell? ⟨E, 0, none⟩ = some (.int .i64 0) ∧ w.frozen? ⟨A, 0, none⟩ = false ∧ (w.setCell ⟨A, 0, none⟩ (.int .i64 0)).frozen? ⟨E, 0, none⟩ = false := by
  have h := (Below.heap_setCell w ⟨A, 0, none⟩ (.int .i64 0) E (Ne.symm hn)).trans hE
  exact ⟨by rw [cell_of_row w A 0 _ _ _ hA]; rfl, by rw [cell_of_row _ E 0 _ _ _ h]; rfl, blk_free hA, blk_free h⟩
set_option linter.unusedSimpArgs false in
set_option maxRecDepth 100000 in
set_option maxHeartbeats 2000000 in
theorem read_ok (C : Nat) (s : ByteArray) (W : World) (hs : s.size ≤ 65536) (hC : C < W.heap.size) (G : World → Prop) (hG : ∀ w w', But [W.heap.size, W.heap.size + 1] w w' → G w → G w') (c : Nat) (hcs : ¬ c < s.size) (hc : ∀ w, But [] W w → w.heap.size = W.heap.size + 3 → Rdr w (W.heap.size + 1 + 1) s 0 → Calls Tryz.prog 21 #[.pointer (some ⟨W.heap.size + 1 + 1, 0, none⟩), .pointer (some ⟨C, 0, none⟩)] w fun e w' => But [W.heap.size + 1 + 1, C] w w' ∧ e = .returned (.tuple #[]) ∧ Rdr w' (W.heap.size + 1 + 1) s c ∧ G w') :
    Calls Tryz.prog 20 #[.string s, .func (Fn.func 21) #[] #[.pointer (some ⟨C, 0, none⟩)]] W fun e w' => e = RdA 0 0 ∧ But [C] W w' ∧ G w' := by
  have hmf : ∀ (fn : Fn) (first cap : Array Value) (w : World), (Instr.makeFunc fn first cap).run Tryz.prog w = .ok (.func fn first cap) w := fun _ _ _ _ => rfl
  have t1 : decide ((s.size : Int) > 65536) = false := by simp; omega
  obtain ⟨U, hU⟩ : ∃ U, U = (((W.alloc (.cells #[.int .i64 0] 3)).alloc (.cells #[.int .i64 0] 23)).alloc (.cells #[.string s, .int .i64 0] 70)) := ⟨_, rfl⟩
  have u0 : But [] W U := hU ▸ (((But.refl [] W).alloc _).alloc _).alloc _
  have uS : U.heap.size = W.heap.size + 3 := by rw [hU]; simp
  have uA : U.heap[W.heap.size]? = some (.cells #[.int .i64 0] 3 (0, 0)) := by rw [hU]; exact at0 _ _ _ _
  have uE : U.heap[W.heap.size + 1]? = some (.cells #[.int .i64 0] 23 (0, 0)) := by rw [hU]; exact at1 _ _ _ _
  have uR : Rdr U (W.heap.size + 1 + 1) s 0 := by rw [hU]; exact at2 _ _ _ _
  have hcU := hc U u0 uS uR
  clear hc
  go_enter_defers Tryz.func20, Tryz.ntmps20
  go_wp2_with (first | (go_at_call 21; rw [← hU]; refine hcU.mono ?_; rintro e w1 ⟨hb, rfl, hr, hg1⟩) | (go_at_call 47; refine (end_ok _ c s _ hr hcs).mono ?_; rintro e w2 ⟨hb2, rfl⟩; have hb' : But [C, W.heap.size + 1 + 1] U w2 := (hb.weak (by simp; omega)).trans (hb2.weak (by simp)); have bA := hb'.heap uA (by simp; omega); have bE := hb'.heap uE (by simp; omega); have hG2 := hG w1 w2 (hb2.weak (by simp)) hg1; have ST := two_zero _ _ _ (by omega) bA bE; obtain ⟨zA, zE, fA, fE⟩ := two_cells _ _ _ (by omega) bA bE))
  refine leaves_cons (f := 46) (args := #[.pointer (some ⟨W.heap.size, 0, none⟩), .pointer (some ⟨W.heap.size + 1, 0, none⟩)]) (by simp) (by simp [go_sem]) ?_
  refine (catch_idle W.heap.size (W.heap.size + 1) _).mono ?_
  rintro e u' w3 ⟨rfl, rfl, h3⟩
  have d3 := h3.heap ST.1 (by simp)
  have d4 := h3.heap ST.2.1 (by simp)
  have c3 : w3.cell? ⟨W.heap.size, 0, none⟩ = some (.int .i64 0) := by rw [cell_of_row w3 _ 0 _ _ _ d3]; rfl
  have c4 : w3.cell? ⟨W.heap.size + 1, 0, none⟩ = some (.int .i64 0) := by rw [cell_of_row w3 _ 0 _ _ _ d4]; rfl
  have b3 := ST.2.2.trans (h3.weak (by simp))
  simp [Leaves, settle, results, Tryz.results20, go_sem, c3, c4]
  exact ⟨((u0.weak (qs' := [C]) (by simp)).then hb' (by simp; omega)).then b3 (by simp; omega), hG _ _ b3 hG2⟩
end Go.Proofs.YtnghppgpdeghfaaGreatDoor
