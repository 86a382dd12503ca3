/- text.read. text.Read. The reference's digits. The reference's reader: fail, is, digit, hexValue, want, end. The reference's reader: is, want, end. -/
import Derived.Test.YtnghppgpdeghfaaGreatDoorZf8
import Derived.Laws.IdiomStrings
namespace Go.Proofs.YtnghppgpdeghfaaGreatDoor
open Go.RowKit Go.Proofs.YtnghppgpdeghfaaGreatDoor.Fl Go.Proofs.YtnghppgpdeghfaaGreatDoor.Pt Go.Proofs.YtnghppgpdeghfaaGreatDoor.Tx

/-- What read answers. -/
abbrev RdA (b c : Nat) : Ending := .returned (.tuple #[.int .i64 (b : Int), .int .i64 (c : Int)])
theorem push_at (h : Array Obj) (a : Obj) (n : Nat) (e : n = h.size) : (h.push a)[n]? = some a := by subst e; exact Array.getElem?_push_size
theorem push_lo (h : Array Obj) (a : Obj) (n : Nat) (e : n < h.size) : (h.push a)[n]? = h[n]? := Array.getElem?_push_lt e |>.trans (Array.getElem?_eq_getElem e).symm
theorem at0 (W : World) (a b c : Obj) : (((W.alloc a).alloc b).alloc c).heap[W.heap.size]? = some a := by
  show (((W.heap.push a).push b).push c)[_]? = _
  rw [push_lo _ _ _ (by simp; omega), push_lo _ _ _ (by simp), push_at _ _ _ rfl]
theorem at1 (W : World) (a b c : Obj) : (((W.alloc a).alloc b).alloc c).heap[W.heap.size + 1]? = some b := by
  show (((W.heap.push a).push b).push c)[_]? = _
  rw [push_lo _ _ _ (by simp), push_at _ _ _ (by simp)]
theorem at2 (W : World) (a b c : Obj) : (((W.alloc a).alloc b).alloc c).heap[W.heap.size + 1 + 1]? = some c := by
  show (((W.heap.push a).push b).push c)[_]? = _
  rw [push_at _ _ _ (by simp)]

theorem end_more (R a : Nat) (s : ByteArray) (w : World) (h : Rdr w R s a) (ha : a < s.size) : Calls Tryz.prog 47 #[.pointer (some ⟨R, 0, none⟩)] w fun e w' => But [] w w' ∧ e = Fa a 12 :=
  (end_any R a s w h).mono fun _ _ ⟨h1, h2⟩ => ⟨h1, h2.elim (fun h => h.2) fun h => absurd ha h.1⟩
theorem end_ok (R a : Nat) (s : ByteArray) (w : World) (h : Rdr w R s a) (ha : ¬ a < s.size) : Calls Tryz.prog 47 #[.pointer (some ⟨R, 0, none⟩)] w fun e w' => But [] w w' ∧ e = .returned (.tuple #[]) :=
  (end_any R a s w h).mono fun _ _ ⟨h1, h2⟩ => ⟨h1, h2.elim (fun h => absurd h.1 ha) fun h => h.2⟩
set_option linter.unusedSimpArgs false in
set_option maxRecDepth 100000 in
set_option maxHeartbeats 2000000 in
theorem read_long (s : ByteArray) (W : World) (v : Value) (hs : 65536 < s.size) : Calls Tryz.prog 20 #[.string s, v] W fun e w' => e = RdA 0 2 ∧ But [] W w' := by
  have t1 : decide ((s.size : Int) > 65536) = true := by simp; omega
  go_enter_defers Tryz.func20, Tryz.ntmps20
  go_wp2_with fail
  simp [bodyPostD, Leaves, settle, results, Tryz.results20, go_sem]
  exact ((But.refl _ _).alloc _).alloc _

set_option linter.unusedSimpArgs false in
set_option maxRecDepth 100000 in
set_option maxHeartbeats 2000000 in
theorem read_no (C : Nat) (s : ByteArray) (W : World) (hs : s.size ≤ 65536) (hC : C < W.heap.size) (b n : Nat) (hc : ∀ w, But [] W w → w.heap.size = W.heap.size + 3 → Rdr w (W.heap.size + 1 + 1) s 0 → Calls Tryz.prog 21 #[.pointer (some ⟨W.heap.size + 1 + 1, 0, none⟩), .pointer (some ⟨C, 0, none⟩)] w fun e w' => But [W.heap.size + 1 + 1, C] w w' ∧ e = Fa b n) :
    Calls Tryz.prog 20 #[.string s, .func (Fn.func 21) #[] #[.pointer (some ⟨C, 0, none⟩)]] W fun e w' => e = RdA b n ∧ But [C] W w' := by
  have hmf : ∀ (fn : Fn) (first cap : Array Value) (w : World), (Instr.makeFunc fn first cap).run Tryz.prog w = .ok (.func fn first cap) w := fun _ _ _ _ => rfl
  have t1 : decide ((s.size : Int) > 65536) = false := by simp; omega
  obtain ⟨U, hU⟩ : ∃ U, U = (((W.alloc (.cells #[.int .i64 0] 3)).alloc (.cells #[.int .i64 0] 23)).alloc (.cells #[.string s, .int .i64 0] 70)) := ⟨_, rfl⟩
  have u0 : But [] W U := hU ▸ (((But.refl [] W).alloc _).alloc _).alloc _
  have uS : U.heap.size = W.heap.size + 3 := by rw [hU]; simp
  have uA : U.heap[W.heap.size]? = some (.cells #[.int .i64 0] 3 (0, 0)) := by rw [hU]; exact at0 _ _ _ _
  have uE : U.heap[W.heap.size + 1]? = some (.cells #[.int .i64 0] 23 (0, 0)) := by rw [hU]; exact at1 _ _ _ _
  have uR : Rdr U (W.heap.size + 1 + 1) s 0 := by rw [hU]; exact at2 _ _ _ _
  have hcU := hc U u0 uS uR
  clear hc
  go_enter_defers Tryz.func20, Tryz.ntmps20
  go_wp2_with (go_at_call 21; rw [← hU]; refine hcU.mono ?_; rintro e w1 ⟨hb, he⟩; subst he; simp only [Fa])
  have hb' : But [C, W.heap.size + 1 + 1] U w1 := hb.weak (by simp; omega)
  have bA := hb'.heap uA (by simp; omega)
  have bE := hb'.heap uE (by simp; omega)
  refine leaves_cons (f := 46) (args := #[.pointer (some ⟨W.heap.size, 0, none⟩), .pointer (some ⟨W.heap.size + 1, 0, none⟩)]) (by simp) (by simp [go_sem]) ?_
  refine (catch_panicking W.heap.size (W.heap.size + 1) b n [] _ bA bE (by omega)).mono ?_
  rintro e u' w3 ⟨rfl, rfl, h3, zA, zE⟩
  have c3 : w3.cell? ⟨W.heap.size, 0, none⟩ = some (.int .i64 (b : Int)) := by rw [cell_of_row w3 _ 0 _ _ _ zA]; rfl
  have c4 : w3.cell? ⟨W.heap.size + 1, 0, none⟩ = some (.int .i64 (n : Int)) := by rw [cell_of_row w3 _ 0 _ _ _ zE]; rfl
  simp [Leaves, settle, results, Tryz.results20, go_sem, c3, c4]
  exact ((u0.weak (qs' := [C]) (by simp)).then hb' (by simp; omega)).then h3 (by simp; omega)

set_option linter.unusedSimpArgs false in
set_option maxRecDepth 100000 in
set_option maxHeartbeats 2000000 in
theorem read_more (C : Nat) (s : ByteArray) (W : World) (hs : s.size ≤ 65536) (hC : C < W.heap.size) (c : Nat) (hcs : c < s.size) (hc : ∀ w, But [] W w → w.heap.size = W.heap.size + 3 → Rdr w (W.heap.size + 1 + 1) s 0 → Calls Tryz.prog 21 #[.pointer (some ⟨W.heap.size + 1 + 1, 0, none⟩), .pointer (some ⟨C, 0, none⟩)] w fun e w' => But [W.heap.size + 1 + 1, C] w w' ∧ e = .returned (.tuple #[]) ∧ Rdr w' (W.heap.size + 1 + 1) s c) :
    Calls Tryz.prog 20 #[.string s, .func (Fn.func 21) #[] #[.pointer (some ⟨C, 0, none⟩)]] W fun e w' => e = RdA c 12 ∧ But [C] W w' := by
  have hmf : ∀ (fn : Fn) (first cap : Array Value) (w : World), (Instr.makeFunc fn first cap).run Tryz.prog w = .ok (.func fn first cap) w := fun _ _ _ _ => rfl
  have t1 : decide ((s.size : Int) > 65536) = false := by simp; omega
  obtain ⟨U, hU⟩ : ∃ U, U = (((W.alloc (.cells #[.int .i64 0] 3)).alloc (.cells #[.int .i64 0] 23)).alloc (.cells #[.string s, .int .i64 0] 70)) := ⟨_, rfl⟩
  have u0 : But [] W U := hU ▸ (((But.refl [] W).alloc _).alloc _).alloc _
  have uS : U.heap.size = W.heap.size + 3 := by rw [hU]; simp
  have uA : U.heap[W.heap.size]? = some (.cells #[.int .i64 0] 3 (0, 0)) := by rw [hU]; exact at0 _ _ _ _
  have uE : U.heap[W.heap.size + 1]? = some (.cells #[.int .i64 0] 23 (0, 0)) := by rw [hU]; exact at1 _ _ _ _
  have uR : Rdr U (W.heap.size + 1 + 1) s 0 := by rw [hU]; exact at2 _ _ _ _
  have hcU := hc U u0 uS uR
  clear hc
  go_enter_defers Tryz.func20, Tryz.ntmps20
  go_wp2_with (first | (go_at_call 21; rw [← hU]; refine hcU.mono ?_; rintro e w1 ⟨hb, rfl, hr⟩) | (go_at_call 47; refine (end_more _ c s _ hr hcs).mono ?_; rintro e w2 ⟨hb2, he⟩; subst he; simp only [Fa]))
  have hb' : But [C, W.heap.size + 1 + 1] U w2 := (hb.weak (by simp; omega)).trans (hb2.weak (by simp))
  have bA := hb'.heap uA (by simp; omega)
  have bE := hb'.heap uE (by simp; omega)
  refine leaves_cons (f := 46) (args := #[.pointer (some ⟨W.heap.size, 0, none⟩), .pointer (some ⟨W.heap.size + 1, 0, none⟩)]) (by simp) (by simp [go_sem]) ?_
  refine (catch_panicking W.heap.size (W.heap.size + 1) c 12 [] _ bA bE (by omega)).mono ?_
  rintro e u' w3 ⟨rfl, rfl, h3, zA, zE⟩
  have c3 : w3.cell? ⟨W.heap.size, 0, none⟩ = some (.int .i64 (c : Int)) := by rw [cell_of_row w3 _ 0 _ _ _ zA]; rfl
  have c4 : w3.cell? ⟨W.heap.size + 1, 0, none⟩ = some (.int .i64 12) := by rw [cell_of_row w3 _ 0 _ _ _ zE]; rfl
  simp [Leaves, settle, results, Tryz.results20, go_sem, c3, c4]
  exact ((u0.weak (qs' := [C]) (by simp)).then hb' (by simp; omega)).then h3 (by simp; omega)

/-- Two new variables, both set to nought. -/
theorem two_zero (A E : Nat) (w : World) (hn : A ≠ E) (hA : w.heap[A]? = some (.cells #[.int .i64 0] 3 (0, 0))) (hE : w.heap[E]? = some (.cells #[.int .i64 0] 23 (0, 0))) :
    let w' := (w.setCell ⟨A, 0, none⟩ (.int .i64 0)).setCell ⟨E, 0, none⟩ (.int .i64 0)
    w'.heap[A]? = some (.cells #[.int .i64 0] 3 (0, 0)) ∧ w'.heap[E]? = some (.cells #[.int .i64 0] 23 (0, 0)) ∧ But [A, E] w w' := by
  refine ⟨(Below.heap_setCell (w.setCell ⟨A, 0, none⟩ (.int .i64 0)) ⟨E, 0, none⟩ (.int .i64 0) A hn).trans (blk_set w A 0 _ 3 _ hA), blk_set (w.setCell ⟨A, 0, none⟩ (.int .i64 0)) E 0 _ 23 _ ((Below.heap_setCell w ⟨A, 0, none⟩ (.int .i64 0) E (Ne.symm hn)).trans hE), ?_⟩
  exact ((But.refl _ w).setCell _ _ (.inl (by simp))).setCell _ _ (.inl (by simp))
theorem two_cells (A E : Nat) (w : World) (hn : A ≠ E) (hA : w.heap[A]? = some (.cells #[.int .i64 0] 3 (0, 0))) (hE : w.heap[E]? = some (.cells #[.int .i64 0] 23 (0, 0))) :
    w.cell? ⟨A, 0, none⟩ = some (.int .i64 0) ∧ (w.setCell ⟨A, 0, none⟩ (.int .i64 0)).cell? ⟨E, 0, none⟩ = some (.int .i64 0) ∧ w.frozen? ⟨A, 0, none⟩ = false ∧ (w.setCell ⟨A, 0, none⟩ (.int .i64 0)).frozen? ⟨E, 0, none⟩ = false := by
  have h := (Below.heap_setCell w ⟨A, 0, none⟩ (.int .i64 0) E (Ne.symm hn)).trans hE
  exact ⟨by rw [cell_of_row w A 0 _ _ _ hA]; rfl, by rw [cell_of_row _ E 0 _ _ _ h]; rfl, blk_free hA, blk_free h⟩
set_option linter.unusedSimpArgs false in
set_option maxRecDepth 100000 in
set_option maxHeartbeats 2000000 in
theorem read_ok (C : Nat) (s : ByteArray) (W : World) (hs : s.size ≤ 65536) (hC : C < W.heap.size) (G : World → Prop) (hG : ∀ w w', But [W.heap.size, W.heap.size + 1] w w' → G w → G w') (c : Nat) (hcs : ¬ c < s.size) (hc : ∀ w, But [] W w → w.heap.size = W.heap.size + 3 → Rdr w (W.heap.size + 1 + 1) s 0 → Calls Tryz.prog 21 #[.pointer (some ⟨W.heap.size + 1 + 1, 0, none⟩), .pointer (some ⟨C, 0, none⟩)] w fun e w' => But [W.heap.size + 1 + 1, C] w w' ∧ e = .returned (.tuple #[]) ∧ Rdr w' (W.heap.size + 1 + 1) s c ∧ G w') :
    Calls Tryz.prog 20 #[.string s, .func (Fn.func 21) #[] #[.pointer (some ⟨C, 0, none⟩)]] W fun e w' => e = RdA 0 0 ∧ But [C] W w' ∧ G w' := by
  have hmf : ∀ (fn : Fn) (first cap : Array Value) (w : World), (Instr.makeFunc fn first cap).run Tryz.prog w = .ok (.func fn first cap) w := fun _ _ _ _ => rfl
  have t1 : decide ((s.size : Int) > 65536) = false := by simp; omega
  obtain ⟨U, hU⟩ : ∃ U, U = (((W.alloc (.cells #[.int .i64 0] 3)).alloc (.cells #[.int .i64 0] 23)).alloc (.cells #[.string s, .int .i64 0] 70)) := ⟨_, rfl⟩
  have u0 : But [] W U := hU ▸ (((But.refl [] W).alloc _).alloc _).alloc _
  have uS : U.heap.size = W.heap.size + 3 := by rw [hU]; simp
  have uA : U.heap[W.heap.size]? = some (.cells #[.int .i64 0] 3 (0, 0)) := by rw [hU]; exact at0 _ _ _ _
  have uE : U.heap[W.heap.size + 1]? = some (.cells #[.int .i64 0] 23 (0, 0)) := by rw [hU]; exact at1 _ _ _ _
  have uR : Rdr U (W.heap.size + 1 + 1) s 0 := by rw [hU]; exact at2 _ _ _ _
  have hcU := hc U u0 uS uR
  clear hc
  go_enter_defers Tryz.func20, Tryz.ntmps20
  go_wp2_with (first | (go_at_call 21; rw [← hU]; refine hcU.mono ?_; rintro e w1 ⟨hb, rfl, hr, hg1⟩) | (go_at_call 47; refine (end_ok _ c s _ hr hcs).mono ?_; rintro e w2 ⟨hb2, rfl⟩; have hb' : But [C, W.heap.size + 1 + 1] U w2 := (hb.weak (by simp; omega)).trans (hb2.weak (by simp)); have bA := hb'.heap uA (by simp; omega); have bE := hb'.heap uE (by simp; omega); have hG2 := hG w1 w2 (hb2.weak (by simp)) hg1; have ST := two_zero _ _ _ (by omega) bA bE; obtain ⟨zA, zE, fA, fE⟩ := two_cells _ _ _ (by omega) bA bE))
  refine leaves_cons (f := 46) (args := #[.pointer (some ⟨W.heap.size, 0, none⟩), .pointer (some ⟨W.heap.size + 1, 0, none⟩)]) (by simp) (by simp [go_sem]) ?_
  refine (catch_idle W.heap.size (W.heap.size + 1) _).mono ?_
  rintro e u' w3 ⟨rfl, rfl, h3⟩
  have d3 := h3.heap ST.1 (by simp)
  have d4 := h3.heap ST.2.1 (by simp)
  have c3 : w3.cell? ⟨W.heap.size, 0, none⟩ = some (.int .i64 0) := by rw [cell_of_row w3 _ 0 _ _ _ d3]; rfl
  have c4 : w3.cell? ⟨W.heap.size + 1, 0, none⟩ = some (.int .i64 0) := by rw [cell_of_row w3 _ 0 _ _ _ d4]; rfl
  have b3 := ST.2.2.trans (h3.weak (by simp))
  simp [Leaves, settle, results, Tryz.results20, go_sem, c3, c4]
  exact ⟨((u0.weak (qs' := [C]) (by simp)).then hb' (by simp; omega)).then b3 (by simp; omega), hG _ _ b3 hG2⟩
end Go.Proofs.YtnghppgpdeghfaaGreatDoor
namespace Go.Proofs.YtnghppgpdeghfaaGreatDoor
open Go.RowKit Go.Proofs.YtnghppgpdeghfaaGreatDoor.Fl Go.Proofs.YtnghppgpdeghfaaGreatDoor.Pt Go.Proofs.YtnghppgpdeghfaaGreatDoor.Tx

@[go_sem] theorem run_store_complex (P : Program) (w : World) (a : Addr) (m : Mode) (k : FloatKind) (x y : Nat) : (store a (.complex k x y) m).run P w = stored P w a (.complex k x y) m := run_store P w a _ m rfl
theorem nu_ok {R a c : Nat} {s : ByteArray} {W : World} (hs : s.size ≤ 65536) (ha : a ≤ s.size) (hR : 15 ≤ R) (h : Rdr W R s a) (hg : Gl W) (k : nu s.data.toList a = (true, c)) : Calls Tryz.prog 22 #[.pointer (some ⟨R, 0, none⟩)] W fun e w' => ∃ x y, e = .returned (.complex .f64 x y) ∧ (x < 18446744073709551616 ∧ y < 18446744073709551616 ∧ Is s.data.toList a (num x y) c) ∧ Rdr w' R s c ∧ But [R] W w' := by
  refine (number_any R a s hs ha hR W h hg).mono ?_
  rintro e w' ⟨h1, ⟨x, y, d, h2, h3, h4, h5, h6, h7⟩ | ⟨b, h2, h3⟩⟩
  · rw [k] at h2; cases h2
    exact ⟨x, y, h3, ⟨h5, h6, h7⟩, h4, h1⟩
  · rw [k] at h2; cases h2
theorem nu_no {R a c : Nat} {s : ByteArray} {W : World} (hs : s.size ≤ 65536) (ha : a ≤ s.size) (hR : 15 ≤ R) (h : Rdr W R s a) (hg : Gl W) (k : nu s.data.toList a = (false, c)) : Calls Tryz.prog 22 #[.pointer (some ⟨R, 0, none⟩)] W fun e w' => e = Fa c 12 ∧ But [R] W w' := by
  refine (number_any R a s hs ha hR W h hg).mono ?_
  rintro e w' ⟨h1, ⟨x, y, d, h2, h3, h4, h5, h6, h7⟩ | ⟨b, h2, h3⟩⟩
  · rw [k] at h2; cases h2
  · rw [k] at h2; cases h2
    exact ⟨h3, h1⟩
theorem nu_le {L : List UInt8} {a c : Nat} (k : nu L a = (true, c)) (ha : a ≤ L.length) : c ≤ L.length := by
  rcases pair (x := tk L [40] a) with ⟨b, k1⟩ | ⟨b, k1⟩
  · rcases pair (x := fo 44 L b) with ⟨d, k2⟩ | ⟨d, k2⟩
    · rw [nu_3 k1 k2 rfl] at k
      exact fo_le k (fo_le k2 (tk_le k1 ha))
    · rw [nu_2 k1 k2] at k; cases k
  · rw [nu_1 k1] at k; cases k
/-- What the variable of Read holds. -/
def CxA (C : Nat) (s : ByteArray) (c : Nat) (w : World) : Prop := ∃ x y, w.heap[C]? = some (.cells #[.complex .f64 x y] 22 (0, 0)) ∧ x < 18446744073709551616 ∧ y < 18446744073709551616 ∧ Is s.data.toList 0 (num x y) c
set_option linter.unusedSimpArgs false in
set_option maxRecDepth 100000 in
set_option maxHeartbeats 2000000 in
theorem rd1_ok (R C c : Nat) (s : ByteArray) (hs : s.size ≤ 65536) (hR : 15 ≤ R) (hn : R ≠ C) (W : World) (h : Rdr W R s 0) (hg : Gl W) (hC : W.heap[C]? = some (.cells #[.complex .f64 0 0] 22 (0, 0))) (k : nu s.data.toList 0 = (true, c)) :
    Calls Tryz.prog 21 #[.pointer (some ⟨R, 0, none⟩), .pointer (some ⟨C, 0, none⟩)] W fun e w' => But [R, C] W w' ∧ e = .returned (.tuple #[]) ∧ Rdr w' R s c ∧ CxA C s c w' := by
  have hk := nu_ok hs (Nat.zero_le _) hR h hg k
  clear h hg
  go_enter Tryz.func21, Tryz.ntmps21
  go_wp2_with (go_at_call 22; refine hk.mono ?_; rintro e w1 ⟨x, y, rfl, hx, hr, hb⟩; have bC := hb.heap hC (by simp; omega); have cC : w1.cell? ⟨C, 0, none⟩ = some (.complex .f64 0 0) := (by rw [cell_of_row w1 C 0 _ _ _ bC]; rfl); have fC : w1.frozen? ⟨C, 0, none⟩ = false := blk_free bC)
  go_end0
  refine ⟨(hb.weak (by simp; omega)).setCell _ _ (.inl (by simp)), rfl, ?_, x, y, blk_set _ _ _ _ _ _ bC, hx.1, hx.2.1, hx.2.2⟩
  exact (Below.heap_setCell w1 ⟨C, 0, none⟩ (.complex .f64 x y) R hn).trans hr
set_option linter.unusedSimpArgs false in
set_option maxRecDepth 100000 in
set_option maxHeartbeats 2000000 in
theorem rd1_no (R C c : Nat) (s : ByteArray) (hs : s.size ≤ 65536) (hR : 15 ≤ R) (W : World) (h : Rdr W R s 0) (hg : Gl W) (k : nu s.data.toList 0 = (false, c)) :
    Calls Tryz.prog 21 #[.pointer (some ⟨R, 0, none⟩), .pointer (some ⟨C, 0, none⟩)] W fun e w' => But [R, C] W w' ∧ e = Fa c (12 : Nat) := by
  have hk := nu_no hs (Nat.zero_le _) hR h hg k
  clear h hg
  go_enter Tryz.func21, Tryz.ntmps21
  go_wp2_with (go_at_call 22; refine hk.mono ?_; rintro e w1 ⟨he, hb⟩; subst he; simp only [Fa])
  exact ⟨rfl, hb.weak (by simp; omega), rfl⟩

/-- The fault's errno, the place: what Read answers. -/
abbrev RdE (x y : Nat) (b c : Nat) : Ending := .returned (.tuple #[.complex .f64 x y, .int .i64 (b : Int), .int .i64 (c : Int)])
set_option linter.unusedSimpArgs false in
set_option maxRecDepth 100000 in
set_option maxHeartbeats 2000000 in
theorem Read_fault (s : ByteArray) (W : World) (b n : Nat) (hn : ((n : Int) != 0) = true) (hr : ∀ C w, But [] W w → C < w.heap.size → w.heap[C]? = some (.cells #[.complex .f64 0 0] 22 (0, 0)) → 15 ≤ C → Calls Tryz.prog 20 #[.string s, .func (Fn.func 21) #[] #[.pointer (some ⟨C, 0, none⟩)]] w fun e w' => e = RdA b n ∧ But [C] w w') (hg : Gl W) :
    Calls Tryz.prog 7 #[.string s] W fun e w' => e = RdE 0 0 b n ∧ But [] W w' := by
  have hmf : ∀ (fn : Fn) (first cap : Array Value) (w : World), (Instr.makeFunc fn first cap).run Tryz.prog w = .ok (.func fn first cap) w := fun _ _ _ _ => rfl
  obtain ⟨U, hU⟩ : ∃ U, U = W.alloc (.cells #[.complex .f64 0 0] 22) := ⟨_, rfl⟩
  have u0 : But [] W U := hU ▸ (But.refl [] W).alloc _
  have uS : U.heap.size = W.heap.size + 1 := by rw [hU]; simp
  have uA : U.heap[W.heap.size]? = some (.cells #[.complex .f64 0 0] 22 (0, 0)) := by rw [hU]; show (W.heap.push _)[_]? = _; exact Array.getElem?_push_size
  have hk := hr W.heap.size U u0 (by omega) uA hg.size
  clear hr hg
  go_enter Tryz.func7, Tryz.ntmps7
  go_wp2_with (go_at_call 20; rw [← hU]; refine hk.mono ?_; rintro e w1 ⟨rfl, hb⟩)
  refine bodyPost_ret (results_tmp3 rfl _ _ _) rfl ?_
  exact ⟨rfl, u0.then hb (by simp; omega)⟩
set_option linter.unusedSimpArgs false in
set_option maxRecDepth 100000 in
set_option maxHeartbeats 2000000 in
theorem Read_fine (s : ByteArray) (W : World) (hr : ∀ C w, But [] W w → C < w.heap.size → w.heap[C]? = some (.cells #[.complex .f64 0 0] 22 (0, 0)) → 15 ≤ C → Calls Tryz.prog 20 #[.string s, .func (Fn.func 21) #[] #[.pointer (some ⟨C, 0, none⟩)]] w fun e w' => e = RdA 0 0 ∧ But [C] w w' ∧ CxA C s s.size w') (hg : Gl W) :
    Calls Tryz.prog 7 #[.string s] W fun e w' => ∃ x y, e = RdE x y 0 0 ∧ (x < 18446744073709551616 ∧ y < 18446744073709551616 ∧ Is s.data.toList 0 (num x y) s.size) ∧ But [] W w' := by
  have hmf : ∀ (fn : Fn) (first cap : Array Value) (w : World), (Instr.makeFunc fn first cap).run Tryz.prog w = .ok (.func fn first cap) w := fun _ _ _ _ => rfl
  obtain ⟨U, hU⟩ : ∃ U, U = W.alloc (.cells #[.complex .f64 0 0] 22) := ⟨_, rfl⟩
  have u0 : But [] W U := hU ▸ (But.refl [] W).alloc _
  have uS : U.heap.size = W.heap.size + 1 := by rw [hU]; simp
  have uA : U.heap[W.heap.size]? = some (.cells #[.complex .f64 0 0] 22 (0, 0)) := by rw [hU]; show (W.heap.push _)[_]? = _; exact Array.getElem?_push_size
  have hk := hr W.heap.size U u0 (by omega) uA hg.size
  clear hr hg
  go_enter Tryz.func7, Tryz.ntmps7
  go_wp2_with (go_at_call 20; rw [← hU]; refine hk.mono ?_; rintro e w1 ⟨rfl, hb, x, y, hx⟩; have cC : w1.cell? ⟨W.heap.size, 0, none⟩ = some (.complex .f64 x y) := (by rw [cell_of_row w1 _ 0 _ _ _ hx.1]; rfl))
  refine bodyPost_ret (results_tmp3 rfl _ _ _) rfl ?_
  exact ⟨x, y, rfl, hx.2, u0.then hb (by simp; omega)⟩

theorem cxa_keep {C : Nat} {s : ByteArray} {c : Nat} {qs : List Nat} (hq : C ∉ qs) (w w' : World) (hb : But qs w w') (h : CxA C s c w) : CxA C s c w' := by
  obtain ⟨x, y, h1, h2⟩ := h
  exact ⟨x, y, hb.heap h1 hq, h2⟩
/-- Every Read. -/
theorem Read_any (s : ByteArray) (W : World) (hg : Gl W) : Calls Tryz.prog 7 #[.string s] W fun e w' => But [] W w' ∧
    ((65536 < s.size ∧ e = RdE 0 0 0 2) ∨ (s.size ≤ 65536 ∧ ∃ b, nu s.data.toList 0 = (false, b) ∧ e = RdE 0 0 b 12) ∨ (s.size ≤ 65536 ∧ ∃ c, c < s.size ∧ nu s.data.toList 0 = (true, c) ∧ e = RdE 0 0 c 12) ∨
      (s.size ≤ 65536 ∧ ∃ x y, nu s.data.toList 0 = (true, s.size) ∧ e = RdE x y 0 0 ∧ x < 18446744073709551616 ∧ y < 18446744073709551616 ∧ Is s.data.toList 0 (num x y) s.size)) := by
  by_cases hs : 65536 < s.size
  · refine (Read_fault s W 0 2 rfl (fun C w _ _ _ _ => (read_long s w _ hs).mono fun e w' h => ⟨h.1, h.2.weak (by simp)⟩) hg).mono ?_
    rintro e w' ⟨rfl, h⟩
    exact ⟨h, .inl ⟨hs, rfl⟩⟩
  have hs' : s.size ≤ 65536 := by omega
  rcases pair (x := nu s.data.toList 0) with ⟨c, k⟩ | ⟨b, k⟩
  · by_cases hc : c < s.size
    · refine (Read_fault s W c 12 rfl (fun C w hb hC hv hC2 => read_more C s w hs' hC c hc fun w2 hb2 _ hr => ?_) hg).mono ?_
      · refine (rd1_ok _ C c s hs' (by omega) (by omega) w2 hr ((hg.keep hb (by simp)).keep hb2 (by simp)) (hb2.heap hv (by simp)) k).mono ?_
        rintro e w3 ⟨h1, h2, h3, _⟩
        exact ⟨h1, h2, h3⟩
      · rintro e w' ⟨rfl, h⟩
        exact ⟨h, .inr (.inr (.inl ⟨hs', c, hc, k, rfl⟩))⟩
    · have hcl : c = s.size := by
        have := nu_le k (Nat.zero_le _)
        simp at this; omega
      subst hcl
      refine (Read_fine s W (fun C w hb hC hv hC2 => read_ok C s w hs' hC (CxA C s s.size) (cxa_keep (by simp; omega)) s.size hc fun w2 hb2 _ hr => ?_) hg).mono ?_
      · exact rd1_ok _ C _ s hs' (by omega) (by omega) w2 hr ((hg.keep hb (by simp)).keep hb2 (by simp)) (hb2.heap hv (by simp)) k
      · rintro e w' ⟨x, y, rfl, hx, h⟩
        exact ⟨h, .inr (.inr (.inr ⟨hs', x, y, k, rfl, hx⟩))⟩
  · refine (Read_fault s W b 12 rfl (fun C w hb hC hv hC2 => read_no C s w hs' hC b 12 fun w2 hb2 _ hr => ?_) hg).mono ?_
    · exact rd1_no _ C b s hs' (by omega) w2 hr ((hg.keep hb (by simp)).keep hb2 (by simp)) k
    · rintro e w' ⟨rfl, h⟩
      exact ⟨h, .inr (.inl ⟨hs', b, k, rfl⟩)⟩
end Go.Proofs.YtnghppgpdeghfaaGreatDoor
namespace Go.Proofs.YtnghppgpdeghfaaGreatDoor
open Go.RowKit Go.Proofs.YtnghppgpdeghfaaGreatDoor.Fl Go.Proofs.YtnghppgpdeghfaaGreatDoor.Pt Go.Proofs.YtnghppgpdeghfaaGreatDoor.Tx

theorem rdig_get (d : Nat) (h : d < 16) : ∀ hp, ({ data := #[48, 49, 50, 51, 52, 53, 54, 55, 56, 57, 97, 98, 99, 100, 101, 102] } : ByteArray)[d]'hp = hc d := by
  intro hp
  have : ∀ d : Fin 16, ({ data := #[48, 49, 50, 51, 52, 53, 54, 55, 56, 57, 97, 98, 99, 100, 101, 102] } : ByteArray)[d.val]'(by have := d.isLt; exact this) = hc d.val := by decide
  exact this ⟨d, h⟩
theorem one_byte (W : World) (c : UInt8) : (convert 32 9 (.slice (some ⟨W.heap.size, 0, none⟩) 1 1)).run Tryz.prog (W.alloc (.cells #[.int .u8 (c.toNat : Int)] 5)) = .ok (.string ⟨#[c]⟩) (W.alloc (.cells #[.int .u8 (c.toNat : Int)] 5)) := by
  have := run_convert_bytes_back (P := Tryz.prog) (W.alloc (.cells #[.int .u8 (c.toNat : Int)] 5)) 32 9 5 ⟨W.heap.size, 0, none⟩ 1 [c] (by kernel_rfl) (by kernel_rfl) (by kernel_rfl) (fun j hj => by
    obtain rfl : j = 0 := by simp at hj; omega
    exact World.cell?_alloc_mark W _ _ _ 0)
  exact this

set_option linter.unusedSimpArgs false in
set_option maxRecDepth 100000 in
set_option maxHeartbeats 2000000 in
theorem rdig16 (n : Nat) : ∀ W : World, n < 18446744073709551616 → Calls Tryz.prog 121 #[.int .u64 (n : Int), .int .u64 16] W fun e w' => e = .returned (.string (str (hexD n))) ∧ But [] W w' := by
  induction n using Nat.strongRecOn with
  | _ n ih =>
    intro W hn
    have hd : n % 16 < 16 := by omega
    have hget := rdig_get (n % 16) hd
    have hcv := one_byte W (hc (n % 16))
    by_cases h : n < 16
    · have t1 : decide ((n : Int) < 16) = true := by simp; omega
      have hF := Lib.hid ((hexD_small h).trans (by rw [Nat.mod_eq_of_lt h]) : hexD n = [hc (n % 16)])
      clear ih
      go_enter Tryz.func121, Tryz.ntmps121
      go_wp2_with fail
      go_ret
      exact ⟨by rw [hF.out]; rfl, (But.refl _ _).alloc _⟩
    · have t1 : decide ((n : Int) < 16) = false := by simp; omega
      have hk : ∀ W : World, Calls Tryz.prog 121 #[.int .u64 ((n : Int) / 16), .int .u64 16] W fun e w' => e = .returned (.string (str (hexD (n / 16)))) ∧ But [] W w' := fun W => by
        have := ih (n / 16) (by omega) W (by omega)
        rwa [show ((n / 16 : Nat) : Int) = (n : Int) / 16 by omega] at this
      have hF := Lib.hid (hexD_big h : hexD n = hexD (n / 16) ++ [hc (n % 16)])
      clear ih
      have hl : (hexD (n / 16)).length ≤ 20 := hexD_len 19 _ (by omega)
      have hl2 : (str (hexD (n / 16))).size ≤ 20 := hl
      go_enter Tryz.func121, Tryz.ntmps121
      go_wp2_with (go_at_call 121; refine (hk _).mono ?_; rintro e w1 ⟨rfl, hb⟩)
      all_goals first | (exfalso; omega) | skip
      go_ret
      exact ⟨by rw [hF.out]; exact congrArg (fun s => Ending.returned (.string s)) (ByteArray.ext (by simp [str])), ((But.refl _ W).alloc _).trans hb⟩

set_option linter.unusedSimpArgs false in
set_option maxRecDepth 100000 in
set_option maxHeartbeats 2000000 in
theorem rdig10 (n : Nat) : ∀ W : World, n < 18446744073709551616 → Calls Tryz.prog 121 #[.int .u64 (n : Int), .int .u64 10] W fun e w' => e = .returned (.string (str (Lib.decDigits n))) ∧ But [] W w' := by
  induction n using Nat.strongRecOn with
  | _ n ih =>
    intro W hn
    have hd : n % 10 < 16 := by omega
    have hget := rdig_get (n % 10) hd
    have hcv := one_byte W (hc (n % 10))
    by_cases h : n < 10
    · have t1 : decide ((n : Int) < 10) = true := by simp; omega
      have hF := Lib.hid ((dd_small h).trans (by rw [Nat.mod_eq_of_lt h, hc, if_pos h]) : Lib.decDigits n = [hc (n % 10)])
      clear ih
      go_enter Tryz.func121, Tryz.ntmps121
      go_wp2_with fail
      go_ret
      exact ⟨by rw [hF.out]; rfl, (But.refl _ _).alloc _⟩
    · have t1 : decide ((n : Int) < 10) = false := by simp; omega
      have hk : ∀ W : World, Calls Tryz.prog 121 #[.int .u64 ((n : Int) / 10), .int .u64 10] W fun e w' => e = .returned (.string (str (Lib.decDigits (n / 10)))) ∧ But [] W w' := fun W => by
        have := ih (n / 10) (by omega) W (by omega)
        rwa [show ((n / 10 : Nat) : Int) = (n : Int) / 10 by omega] at this
      have hF := Lib.hid ((dd_big h).trans (by rw [hc, if_pos (by omega)]) : Lib.decDigits n = Lib.decDigits (n / 10) ++ [hc (n % 10)])
      clear ih
      have hl : (Lib.decDigits (n / 10)).length ≤ 20 := dd_len 19 _ (by omega)
      have hl2 : (str (Lib.decDigits (n / 10))).size ≤ 20 := hl
      go_enter Tryz.func121, Tryz.ntmps121
      go_wp2_with (go_at_call 121; refine (hk _).mono ?_; rintro e w1 ⟨rfl, hb⟩)
      all_goals first | (exfalso; omega) | skip
      go_ret
      exact ⟨by rw [hF.out]; exact congrArg (fun s => Ending.returned (.string s)) (ByteArray.ext (by simp [str])), ((But.refl _ W).alloc _).trans hb⟩

end Go.Proofs.YtnghppgpdeghfaaGreatDoor
namespace Go.Proofs.YtnghppgpdeghfaaGreatDoor
open Go.RowKit Go.Proofs.YtnghppgpdeghfaaGreatDoor.Fl Go.Proofs.YtnghppgpdeghfaaGreatDoor.Pt Go.Proofs.YtnghppgpdeghfaaGreatDoor.Tx

/-- The reference's reader in memory: its text, where it stands, its first fault and the fault's place. -/
def Rr (w : World) (Q : Nat) (s : ByteArray) (a : Nat) (e : Nat) (p : Nat) : Prop := w.heap[Q]? = some (.cells #[.string s, .int .i64 (a : Int), .int .i64 (e : Int), .int .i64 (p : Int)] 60 (0, 0))
theorem Rr.keep {w w' : World} {Q a e p : Nat} {s : ByteArray} {qs : List Nat} (h : Rr w Q s a e p) (hb : But qs w w') (hq : Q ∉ qs) : Rr w' Q s a e p := hb.heap h hq
theorem Rr.cells {w : World} {Q a e p : Nat} {s : ByteArray} (h : Rr w Q s a e p) : w.cell? ⟨Q, 0, none⟩ = some (.string s) ∧ w.cell? ⟨Q, 1, none⟩ = some (.int .i64 (a : Int)) ∧ w.cell? ⟨Q, 2, none⟩ = some (.int .i64 (e : Int)) ∧ w.cell? ⟨Q, 3, none⟩ = some (.int .i64 (p : Int)) ∧ (∀ i, w.frozen? ⟨Q, i, none⟩ = false) :=
  ⟨by rw [cell_of_row w Q 0 _ _ _ h]; rfl, by rw [cell_of_row w Q 1 _ _ _ h]; rfl, by rw [cell_of_row w Q 2 _ _ _ h]; rfl, by rw [cell_of_row w Q 3 _ _ _ h]; rfl, fun _ => blk_free h⟩
theorem Rr.step {w : World} {Q a e p : Nat} {s : ByteArray} (h : Rr w Q s a e p) (b : Nat) : Rr (w.setCell ⟨Q, 1, none⟩ (.int .i64 (b : Int))) Q s b e p := blk_set _ _ _ _ _ _ h
theorem Rr.fault {w : World} {Q a e p : Nat} {s : ByteArray} (h : Rr w Q s a e p) (e' p' : Nat) : Rr ((w.setCell ⟨Q, 2, none⟩ (.int .i64 (e' : Int))).setCell ⟨Q, 3, none⟩ (.int .i64 (p' : Int))) Q s a e' p' := blk_set _ _ _ _ _ _ (blk_set _ _ _ _ _ _ h)

set_option linter.unusedSimpArgs false in
set_option maxRecDepth 100000 in
set_option maxHeartbeats 2000000 in
theorem rfail_on (Q a p e' p' : Nat) (s : ByteArray) (w : World) (h : Rr w Q s a 0 p) : Calls Tryz.prog 43 #[.pointer (some ⟨Q, 0, none⟩), .int .i64 (e' : Int), .int .i64 (p' : Int)] w fun e w' => e = .returned (.tuple #[]) ∧ Rr w' Q s a e' p' ∧ But [Q] w w' := by
  obtain ⟨c0, c1, c2, c3, cf⟩ := h.cells
  have f2 := cf 2
  have f3 := cf 3
  obtain ⟨d0, d1, d2, d3, df⟩ := (show Rr (w.setCell ⟨Q, 2, none⟩ (.int .i64 (e' : Int))) Q s a e' p from blk_set _ _ _ _ _ _ h).cells
  have g3 := df 3
  have hf := Lib.hid (h.fault e' p')
  clear h cf df
  go_enter Tryz.func43, Tryz.ntmps43
  go_wp2_with fail
  go_end0
  exact ⟨rfl, hf.out, ((But.refl _ _).setCell _ _ (.inl (by simp))).setCell _ _ (.inl (by simp))⟩
set_option linter.unusedSimpArgs false in
set_option maxRecDepth 100000 in
set_option maxHeartbeats 2000000 in
theorem rfail_off (Q a e p e' p' : Nat) (he : ((e : Int) == 0) = false) (s : ByteArray) (w : World) (h : Rr w Q s a e p) : Calls Tryz.prog 43 #[.pointer (some ⟨Q, 0, none⟩), .int .i64 (e' : Int), .int .i64 (p' : Int)] w fun e w' => e = .returned (.tuple #[]) ∧ w' = w := by
  obtain ⟨c0, c1, c2, c3, cf⟩ := h.cells
  clear h cf
  go_enter Tryz.func43, Tryz.ntmps43
  go_wp2_with fail
  go_end0
  exact ⟨rfl, rfl⟩
set_option linter.unusedSimpArgs false in
set_option maxRecDepth 100000 in
set_option maxHeartbeats 2000000 in
theorem rdigit (c : UInt8) (hex v : Bool) (hv : (if hex then isH c else isD c) = v) (w : World) : Calls Tryz.prog 98 #[.int .u8 (c.toNat : Int), .bool hex] w fun e w' => e = .returned (.bool v) ∧ w' = w := by
  obtain ⟨n, hn⟩ : ∃ n, n = c.toNat := ⟨_, rfl⟩
  have hF := Lib.hid (show v = ((decide (48 ≤ n) && decide (n ≤ 57)) || (hex && (decide (97 ≤ n) && decide (n ≤ 102)))) by rw [hn, ← hv]; cases hex <;> simp [isH, isD])
  rw [← hn]
  clear hn hv
  by_cases h1 : 48 ≤ n
  · by_cases h2 : n ≤ 57
    · have t1 : decide (48 ≤ (n : Int)) = true := by simp; omega
      have t2 : decide ((n : Int) ≤ 57) = true := by simp; omega
      have hr := Lib.hid (show v = true by rw [hF.out]; simp [h1, h2])
      clear hF h1 h2
      go_enter Tryz.func98, Tryz.ntmps98
      go_wp2_with fail
      go_ret
      exact ⟨by rw [hr.out]; rfl, rfl⟩
    · have t1 : decide (48 ≤ (n : Int)) = true := by simp; omega
      have t2 : decide ((n : Int) ≤ 57) = false := by simp; omega
      cases hex
      · have hr := Lib.hid (show v = false by have := hF.out; simpa [h1, h2] using this)
        clear hF h1 h2
        go_enter Tryz.func98, Tryz.ntmps98
        go_wp2_with fail
        go_ret
        exact ⟨by rw [hr.out]; rfl, rfl⟩
      · by_cases h3 : 97 ≤ n
        · have t3 : decide (97 ≤ (n : Int)) = true := by simp; omega
          by_cases h4 : n ≤ 102
          · have t4 : decide ((n : Int) ≤ 102) = true := by simp; omega
            have hr := Lib.hid (show v = true by have := hF.out; simpa [h1, h2, h3, h4] using this)
            clear hF h1 h2 h3 h4
            go_enter Tryz.func98, Tryz.ntmps98
            go_wp2_with fail
            go_ret
            exact ⟨by rw [hr.out]; rfl, rfl⟩
          · have t4 : decide ((n : Int) ≤ 102) = false := by simp; omega
            have hr := Lib.hid (show v = false by have := hF.out; simpa [h1, h2, h3, h4] using this)
            clear hF h1 h2 h3 h4
            go_enter Tryz.func98, Tryz.ntmps98
            go_wp2_with fail
            go_ret
            exact ⟨by rw [hr.out]; rfl, rfl⟩
        · have t3 : decide (97 ≤ (n : Int)) = false := by simp; omega
          have hr := Lib.hid (show v = false by have := hF.out; simpa [h1, h2, h3] using this)
          clear hF h1 h2 h3
          go_enter Tryz.func98, Tryz.ntmps98
          go_wp2_with fail
          go_ret
          exact ⟨by rw [hr.out]; rfl, rfl⟩
  · have t1 : decide (48 ≤ (n : Int)) = false := by simp; omega
    have t3 : decide (97 ≤ (n : Int)) = false := by simp; omega
    have hr := Lib.hid (show v = false by rw [hF.out]; simp; omega)
    clear hF h1
    cases hex
    all_goals
      go_enter Tryz.func98, Tryz.ntmps98
      go_wp2_with fail
      go_ret
      exact ⟨by rw [hr.out]; rfl, rfl⟩
set_option linter.unusedSimpArgs false in
set_option maxRecDepth 100000 in
set_option maxHeartbeats 2000000 in
theorem rhexv (c : UInt8) (hc : isH c = true) (w : World) : Calls Tryz.prog 99 #[.int .u8 (c.toNat : Int)] w fun e w' => e = .returned (.int .u64 (hv c : Int)) ∧ w' = w := by
  obtain ⟨n, hn⟩ : ∃ n, n = c.toNat := ⟨_, rfl⟩
  have hF := Lib.hid (show hv c = if 97 ≤ n then n - 87 else n - 48 by rw [hn]; rfl)
  have hb : 48 ≤ n ∧ n ≤ 102 := by unfold isH at hc; simp at hc; omega
  rw [← hn]
  clear hn hc
  by_cases h1 : 97 ≤ n
  · have t1 : decide (97 ≤ (n : Int)) = true := by simp; omega
    have t2 : IntKind.u8.wrap ((n : Int) - 97) = ((n - 97 : Nat) : Int) := by rw [IntKind.wrap_u8]; omega
    have hr := Lib.hid (show ((hv c : Nat) : Int) = ((n - 97 : Nat) : Int) + 10 by rw [hF.out, if_pos h1]; omega)
    clear hF
    go_enter Tryz.func99, Tryz.ntmps99
    go_wp2_with fail
    go_ret
    exact ⟨ri (by have := hr.out; omega), rfl⟩
  · have t1 : decide (97 ≤ (n : Int)) = false := by simp; omega
    have t2 : IntKind.u8.wrap ((n : Int) - 48) = ((n - 48 : Nat) : Int) := by rw [IntKind.wrap_u8]; omega
    have hr := Lib.hid (show ((hv c : Nat) : Int) = ((n - 48 : Nat) : Int) by rw [hF.out, if_neg h1])
    clear hF
    go_enter Tryz.func99, Tryz.ntmps99
    go_wp2_with fail
    go_ret
    exact ⟨ri (by have := hr.out; omega), rfl⟩
end Go.Proofs.YtnghppgpdeghfaaGreatDoor
namespace Go.Proofs.YtnghppgpdeghfaaGreatDoor
open Go.RowKit Go.Proofs.YtnghppgpdeghfaaGreatDoor.Fl Go.Proofs.YtnghppgpdeghfaaGreatDoor.Pt Go.Proofs.YtnghppgpdeghfaaGreatDoor.Tx

set_option linter.unusedSimpArgs false in
set_option maxRecDepth 100000 in
set_option maxHeartbeats 2000000 in
theorem ris_on (Q a p : Nat) (s : ByteArray) (c : UInt8) (x : Bool) (hx : decide (s.data.toList[a]? = some c) = x) (w : World) (h : Rr w Q s a 0 p) : Calls Tryz.prog 42 #[.pointer (some ⟨Q, 0, none⟩), .int .u8 (c.toNat : Int)] w fun e w' => e = .returned (.bool x) ∧ But [] w w' := by
  obtain ⟨c0, c1, c2, c3, cf⟩ := h.cells
  clear cf h
  by_cases ha : a < s.size
  · have t1 : decide ((a : Int) < (s.size : Int)) = true := by simp; omega
    have hd : (((s[a]'ha).toNat : Int) == (c.toNat : Int)) = x := by
      rw [← hx, get_eq s a ha]
      by_cases e : s[a]'ha = c
      · rw [e]; simp
      · have : ¬ (s[a]'ha).toNat = c.toNat := fun e' => e (UInt8.toNat_inj.1 e')
        simp [e]; omega
    have HD := Lib.hid hd
    clear hd hx
    go_enter Tryz.func42, Tryz.ntmps42
    go_wp2_with fail
    go_quiet (fail)
    go_wp2_with fail
    go_ret
    exact ⟨by simp [HD.out], (But.refl [] w).drewN nq⟩
  · have t1 : decide ((a : Int) < (s.size : Int)) = false := by simp; omega
    have hd : x = false := by rw [← hx, List.getElem?_eq_none (by simpa using ha)]; simp
    rw [hd]
    clear hd hx
    go_enter Tryz.func42, Tryz.ntmps42
    go_wp2_with fail
    go_quiet (fail)
    go_wp2_with fail
    go_ret
    exact ⟨rfl, (But.refl [] w).drewN nq⟩
set_option linter.unusedSimpArgs false in
set_option maxRecDepth 100000 in
set_option maxHeartbeats 2000000 in
theorem ris_off (Q a p f : Nat) (hf : ((f : Int) == 0) = false) (s : ByteArray) (c : UInt8) (w : World) (h : Rr w Q s a f p) : Calls Tryz.prog 42 #[.pointer (some ⟨Q, 0, none⟩), .int .u8 (c.toNat : Int)] w fun e w' => e = .returned (.bool false) ∧ But [] w w' := by
  obtain ⟨c0, c1, c2, c3, cf⟩ := h.cells
  clear cf h
  go_enter Tryz.func42, Tryz.ntmps42
  go_wp2_with fail
  go_quiet (fail)
  go_wp2_with fail
  go_ret
  exact ⟨rfl, (But.refl [] w).drewN nq⟩
abbrev EnA (b c : Nat) : Ending := .returned (.tuple #[.int .i64 (b : Int), .int .i64 (c : Int)])
set_option linter.unusedSimpArgs false in
set_option maxRecDepth 100000 in
set_option maxHeartbeats 2000000 in
theorem rend_off (Q a p f : Nat) (hf : ((f : Int) == 0) = false) (s : ByteArray) (w : World) (h : Rr w Q s a f p) : Calls Tryz.prog 24 #[.pointer (some ⟨Q, 0, none⟩)] w fun e w' => e = EnA p f ∧ But [] w w' := by
  obtain ⟨c0, c1, c2, c3, cf⟩ := h.cells
  clear cf h
  go_enter Tryz.func24, Tryz.ntmps24
  go_wp2_with fail
  go_quiet (fail)
  go_wp2_with fail
  go_quiet (fail)
  go_wp2_with fail
  exact bodyPost_ret (results_tmp2 rfl _ _ _) rfl ⟨rfl, ((But.refl [] w).drewN _).trans ((But.refl [] _).drewN _)⟩
set_option linter.unusedSimpArgs false in
set_option maxRecDepth 100000 in
set_option maxHeartbeats 2000000 in
theorem rend_full (Q a p : Nat) (s : ByteArray) (ha : a = s.size) (w : World) (h : Rr w Q s a 0 p) : Calls Tryz.prog 24 #[.pointer (some ⟨Q, 0, none⟩)] w fun e w' => e = EnA p 0 ∧ But [] w w' := by
  obtain ⟨c0, c1, c2, c3, cf⟩ := h.cells
  have t1 : ((a : Int) != (s.size : Int)) = false := by simp [ha]
  clear cf h ha
  go_enter Tryz.func24, Tryz.ntmps24
  go_wp2_with fail
  go_quiet (fail)
  go_wp2_with fail
  go_quiet (fail)
  go_wp2_with fail
  exact bodyPost_ret (results_tmp2 rfl _ _ _) rfl ⟨rfl, ((But.refl [] w).drewN _).trans ((But.refl [] _).drewN _)⟩
set_option linter.unusedSimpArgs false in
set_option maxRecDepth 100000 in
set_option maxHeartbeats 2000000 in
theorem rend_more (Q a p : Nat) (s : ByteArray) (ha : a < s.size) (w : World) (h : Rr w Q s a 0 p) : Calls Tryz.prog 24 #[.pointer (some ⟨Q, 0, none⟩)] w fun e w' => e = EnA a 12 ∧ But [Q] w w' := by
  obtain ⟨c0, c1, c2, c3, cf⟩ := h.cells
  have t1 : ((a : Int) != (s.size : Int)) = true := by simp; omega
  have hR := Lib.hid h
  clear cf h ha
  go_enter Tryz.func24, Tryz.ntmps24
  go_wp2_with fail
  go_quiet (fail)
  go_wp2_with (go_at_call 43; refine (rfail_on Q a p 12 a s _ (hR.out.keep ((But.refl [] w).drewN _) (by simp))).mono ?_; rintro e w2 ⟨rfl, hr2, hb2⟩; obtain ⟨z0, z1, z2, z3, zf⟩ := hr2.cells)
  go_quiet (fail)
  go_wp2_with fail
  exact bodyPost_ret (results_tmp2 rfl _ _ _) rfl ⟨rfl, (((But.refl [Q] w).drewN _).trans hb2).trans ((But.refl [Q] _).drewN _)⟩
set_option linter.unusedSimpArgs false in
set_option maxRecDepth 100000 in
set_option maxHeartbeats 2000000 in
theorem rwant_off (Q a p f : Nat) (hf : ((f : Int) == 0) = false) (s : ByteArray) (t : List UInt8) (ht : t.length ≤ 100) (w : World) (h : Rr w Q s a f p) : Calls Tryz.prog 34 #[.pointer (some ⟨Q, 0, none⟩), .string (str t)] w fun e w' => e = .returned (.tuple #[]) ∧ But [] w w' := by
  obtain ⟨c0, c1, c2, c3, cf⟩ := h.cells
  have hsz : (str t).size = t.length := rfl
  clear cf h
  go_enter Tryz.func34, Tryz.ntmps34
  go_wp2_with fail
  go_loopw [4] (fun i wr => i = .int .i64 0 ∧ wr = w) (fun i _ => 0)
  case atStart => exact ⟨rfl, rfl⟩
  case round =>
    obtain ⟨rfl, hw⟩ := hrel
    rw [hw]
    clear hw
    by_cases h0 : 0 < t.length
    · have t1 : decide ((0 : Int) < (t.length : Int)) = true := decide_eq_true (by omega)
      go_wp2_with fail
      go_end0
      exact ⟨rfl, But.refl _ _⟩
    · have t1 : decide ((0 : Int) < (t.length : Int)) = false := decide_eq_false (by omega)
      go_wp2_with fail
      go_end0
      exact ⟨rfl, But.refl _ _⟩
set_option linter.unusedSimpArgs false in
set_option maxRecDepth 100000 in
set_option maxHeartbeats 2000000 in
theorem rwant_on (Q a : Nat) (s : ByteArray) (t : List UInt8) (ht : t.length ≤ 100) (hs : s.size ≤ 65536) (ha : a ≤ s.size) (w : World) (h : Rr w Q s a 0 0) : Calls Tryz.prog 34 #[.pointer (some ⟨Q, 0, none⟩), .string (str t)] w fun e w' => e = .returned (.tuple #[]) ∧ But [Q] w w' ∧ ((∃ b, tk s.data.toList t a = (true, b) ∧ Rr w' Q s b 0 0) ∨ (∃ b, tk s.data.toList t a = (false, b) ∧ Rr w' Q s b 12 b)) := by
  have hsz : (str t).size = t.length := rfl
  go_enter Tryz.func34, Tryz.ntmps34
  go_wp2_with fail
  go_loopw [4] (fun i wr => ∃ k : Nat, k ≤ t.length ∧ i = .int .i64 (k : Int) ∧ Rr wr Q s (a + k) 0 0 ∧ But [Q] w wr ∧ Hid (tk s.data.toList t a = tk s.data.toList (t.drop k) (a + k)) ∧ a + k ≤ s.size) (fun i _ => t.length - (intOf i).toNat)
  case atStart => exact ⟨0, Nat.zero_le _, rfl, h, But.refl _ _, Lib.hid (by simp), by omega⟩
  case round =>
    obtain ⟨k, hk, rfl, hr, hb, hT, hak⟩ := hrel
    obtain ⟨c0, c1, c2, c3, cf⟩ := hr.cells
    have f1 := cf 1
    clear cf
    by_cases hlt : k < t.length
    · have t1 : decide ((k : Int) < (t.length : Int)) = true := by simp; omega
      obtain ⟨c, hc⟩ : ∃ c, t[k]? = some c := ⟨_, List.getElem?_eq_getElem hlt⟩
      have hget : ∀ hp, (str t)[k]'hp = c := fun hp => by
        have := List.getElem?_eq_getElem hlt
        rw [hc] at this
        exact (Option.some.inj this).symm
      have hdr : t.drop k = c :: t.drop (k + 1) := by
        obtain ⟨_, he⟩ := List.getElem?_eq_some_iff.1 hc
        rw [List.drop_eq_getElem_cons hlt, he]
      have hT' := hT.out
      rw [hdr, tk] at hT'
      by_cases hy : s.data.toList[a + k]? = some c
      · rw [if_pos hy] at hT'
        have HT := Lib.hid hT'
        have hlt2 : a + k < s.size := by
          have := (List.getElem?_eq_some_iff.1 hy).1
          simpa using this
        have hdy : decide (s.data.toList[a + k]? = some c) = true := decide_eq_true hy
        have e1 : IntKind.i64.wrap (((a + k : Nat) : Int) + 1) = ((a + k + 1 : Nat) : Int) := by rw [IntKind.wrap_i64]; omega
        generalize hA : a + k = A at *
        have HR := Lib.hid hr
        clear hT' hr hy hdr hc
        go_wp2_with (go_at_call 42; refine (ris_on Q A 0 s c true hdy _ HR.out).mono ?_; rintro e w1 ⟨rfl, hb1⟩; have hr1 := HR.out.keep hb1 (by simp); obtain ⟨z0, z1, z2, z3, zf⟩ := hr1.cells; have zf1 := zf 1; clear zf)
        have hst := hr1.step (A + 1)
        exact ⟨⟨k + 1, by omega, by go_num, by rw [show a + (k + 1) = A + 1 by omega]; exact hst, (hb.trans (hb1.weak (by simp))).setCell _ _ (.inl (by simp)), by rw [show a + (k + 1) = A + 1 by omega]; exact HT, by omega⟩, by simp [intOf]; omega⟩
      · rw [if_neg hy] at hT'
        have HT := Lib.hid hT'
        have hdy : decide (s.data.toList[a + k]? = some c) = false := decide_eq_false hy
        generalize hA : a + k = A at *
        have HR := Lib.hid hr
        clear hT' hr hy hdr hc
        go_wp2_with (first | (go_at_call 42; refine (ris_on Q A 0 s c false hdy _ HR.out).mono ?_; rintro e w1 ⟨rfl, hb1⟩; have hr1 := HR.out.keep hb1 (by simp); obtain ⟨z0, z1, z2, z3, zf⟩ := hr1.cells) | (go_at_call 43; refine (rfail_on Q A 0 12 A s _ hr1).mono ?_; rintro e w2 ⟨rfl, hr2, hb2⟩))
        refine bodyPost_ret (results_none rfl _ _ _) rfl ?_
        exact ⟨rfl, (hb.trans (hb1.weak (by simp))).trans hb2, .inr ⟨A, HT.out, hr2⟩⟩
    · obtain rfl : k = t.length := by omega
      have t1 : decide ((t.length : Int) < (t.length : Int)) = false := by simp
      have hT' := hT.out
      rw [List.drop_length, tk] at hT'
      have HT := Lib.hid hT'
      clear hT'
      go_wp2
      go_end0
      exact ⟨rfl, hb, .inl ⟨_, HT.out, hr⟩⟩
end Go.Proofs.YtnghppgpdeghfaaGreatDoor
