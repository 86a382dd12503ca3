/- text.ReadZpk, text.ReadFilter where they are at fault. -/
import Derived.Test.YtnghppgpdeghfaaGreatDoorA18
namespace Go.Proofs.YtnghppgpdeghfaaGreatDoor
open Go.RowKit Go.Proofs.YtnghppgpdeghfaaGreatDoor.Fl Go.Proofs.YtnghppgpdeghfaaGreatDoor.Pt Go.Proofs.YtnghppgpdeghfaaGreatDoor.Tx

theorem results_cell_tmp2 {fn : Func} {p u v : Tmp} {ty : TypeId} (h : fn.results = #[.cell p ty, .tmp u, .tmp v]) (tmps : Array Value) (P : Program) (w : World) :
    (results fn tmps).run P w = ((asAddr (tmps.getD p undef)).run P w).andThen fun a w₁ => ((loadVar ty a).run P w₁).andThen fun x w₂ => .ok (.tuple #[x, tmps.getD u undef, tmps.getD v undef]) w₂ := by
  simp only [results, h]
  simp [Sem.run_bind, Result.andThen]
theorem a2_0 (W : World) (a b : Obj) : ((W.alloc a).alloc b).heap[W.heap.size]? = some a := by
  show ((W.heap.push a).push b)[_]? = _
  rw [push_lo _ _ _ (by simp), push_at _ _ _ rfl]
set_option linter.unusedSimpArgs false in
set_option maxRecDepth 100000 in
set_option maxHeartbeats 2000000 in
theorem Zpk_fault (s : ByteArray) (W : World) (b n : Nat) (hn : ((n : Int) != 0) = true) (hr : ∀ C w, But [] W w → C < w.heap.size → 15 ≤ C → Calls Tryz.prog 20 #[.string s, .func (Fn.func 27) #[] #[.pointer (some ⟨C, 0, none⟩)]] w fun e w' => e = RdA b n ∧ But [C] w w') (hg : Gl W) :
    Calls Tryz.prog 12 #[.string s] W fun e w' => e = .returned (.tuple #[.agg #[.slice none 0 0, .slice none 0 0, .complex .f64 0 0], .int .i64 (b : Int), .int .i64 (n : Int)]) ∧ But [] W w' := by
  have hmf : ∀ (fn : Fn) (first cap : Array Value) (w : World), (Instr.makeFunc fn first cap).run Tryz.prog w = .ok (.func fn first cap) w := fun _ _ _ _ => rfl
  have hsz := hg.size
  obtain ⟨U, hU⟩ : ∃ U, U = (W.alloc (.cells #[.slice none 0 0, .slice none 0 0, .complex .f64 0 0] 35)).alloc (.cells #[.slice none 0 0, .slice none 0 0, .complex .f64 0 0] 35) := ⟨_, rfl⟩
  have u0 : But [] W U := hU ▸ ((But.refl [] W).alloc _).alloc _
  have uS : U.heap.size = W.heap.size + 2 := by rw [hU]; simp
  have uR : U.heap[W.heap.size]? = some (.cells #[.slice none 0 0, .slice none 0 0, .complex .f64 0 0] 35 (0, 0)) := by rw [hU]; exact a2_0 _ _ _
  have hk := hr (W.heap.size + 1) U u0 (by omega) (by omega)
  clear hr
  go_enter Tryz.func12, Tryz.ntmps12
  go_wp2_with (go_at_call 20; rw [← hU]; refine hk.mono ?_; rintro e w1 ⟨rfl, hb⟩; have zR := hb.heap uR (by simp); have z0 : w1.cell? ⟨W.heap.size, 0, none⟩ = some (.slice none 0 0) := (by rw [cell_of_row w1 _ 0 _ _ _ zR]; rfl); have z1 : w1.cell? ⟨W.heap.size, 1, none⟩ = some (.slice none 0 0) := (by rw [cell_of_row w1 _ 1 _ _ _ zR]; rfl); have z2 : w1.cell? ⟨W.heap.size, 2, none⟩ = some (.complex .f64 0 0) := (by rw [cell_of_row w1 _ 2 _ _ _ zR]; rfl); have f0 : (w1).frozen? ⟨W.heap.size, 0, none⟩ = false := blk_free zR; have s0 := blk_set (w1) W.heap.size 0 _ 35 (.slice none 0 0) zR; have f1 : ((w1).setCell ⟨W.heap.size, 0, none⟩ (.slice none 0 0)).frozen? ⟨W.heap.size, 1, none⟩ = false := blk_free s0; have s1 := blk_set ((w1).setCell ⟨W.heap.size, 0, none⟩ (.slice none 0 0)) W.heap.size 1 _ 35 (.slice none 0 0) s0; have f2 : (((w1).setCell ⟨W.heap.size, 0, none⟩ (.slice none 0 0)).setCell ⟨W.heap.size, 1, none⟩ (.slice none 0 0)).frozen? ⟨W.heap.size, 2, none⟩ = false := blk_free s1; have s2 := blk_set (((w1).setCell ⟨W.heap.size, 0, none⟩ (.slice none 0 0)).setCell ⟨W.heap.size, 1, none⟩ (.slice none 0 0)) W.heap.size 2 _ 35 (.complex .f64 0 0) s1)
  refine bodyPost_ret (v := .tuple #[.agg #[.slice none 0 0, .slice none 0 0, .complex .f64 0 0], .int .i64 (b : Int), .int .i64 (n : Int)]) ?_ rfl ⟨rfl, ?_⟩
  · rw [results_cell_tmp2 (fn := Tryz.f12) rfl]
    simp only [List.getElem_toArray, Array.getD]
    simp [asAddr, Sem.run_pure, Result.andThen]
    rw [run_loadVar_row _ W.heap.size 35 35 _ _ _ s2 Tryz.underlying35 rfl (by kernel_rfl)]
    rfl
  · exact u0.then ((((hb.weak (qs' := [W.heap.size, W.heap.size + 1]) (by simp; omega)).setCell ⟨W.heap.size, 0, none⟩ (.slice none 0 0) (.inl (by simp))).setCell ⟨W.heap.size, 1, none⟩ (.slice none 0 0) (.inl (by simp))).setCell ⟨W.heap.size, 2, none⟩ (.complex .f64 0 0) (.inl (by simp))) (by simp; omega)

set_option linter.unusedSimpArgs false in
set_option maxRecDepth 100000 in
set_option maxHeartbeats 2000000 in
theorem Flt_fault (s : ByteArray) (W : World) (b n : Nat) (hn : ((n : Int) != 0) = true) (hr : ∀ C w, But [] W w → C < w.heap.size → 15 ≤ C → Calls Tryz.prog 20 #[.string s, .func (Fn.func 31) #[] #[.pointer (some ⟨C, 0, none⟩)]] w fun e w' => e = RdA b n ∧ But [C] w w') (hg : Gl W) :
    Calls Tryz.prog 13 #[.string s] W fun e w' => e = .returned (.tuple #[.agg #[.complex .f64 0 0, .slice none 0 0], .int .i64 (b : Int), .int .i64 (n : Int)]) ∧ But [] W w' := by
  have hmf : ∀ (fn : Fn) (first cap : Array Value) (w : World), (Instr.makeFunc fn first cap).run Tryz.prog w = .ok (.func fn first cap) w := fun _ _ _ _ => rfl
  have hsz := hg.size
  obtain ⟨U, hU⟩ : ∃ U, U = (W.alloc (.cells #[.complex .f64 0 0, .slice none 0 0] 40)).alloc (.cells #[.complex .f64 0 0, .slice none 0 0] 40) := ⟨_, rfl⟩
  have u0 : But [] W U := hU ▸ ((But.refl [] W).alloc _).alloc _
  have uS : U.heap.size = W.heap.size + 2 := by rw [hU]; simp
  have uR : U.heap[W.heap.size]? = some (.cells #[.complex .f64 0 0, .slice none 0 0] 40 (0, 0)) := by rw [hU]; exact a2_0 _ _ _
  have hk := hr (W.heap.size + 1) U u0 (by omega) (by omega)
  clear hr
  go_enter Tryz.func13, Tryz.ntmps13
  go_wp2_with (go_at_call 20; rw [← hU]; refine hk.mono ?_; rintro e w1 ⟨rfl, hb⟩; have zR := hb.heap uR (by simp); have z0 : w1.cell? ⟨W.heap.size, 0, none⟩ = some (.complex .f64 0 0) := (by rw [cell_of_row w1 _ 0 _ _ _ zR]; rfl); have z1 : w1.cell? ⟨W.heap.size, 1, none⟩ = some (.slice none 0 0) := (by rw [cell_of_row w1 _ 1 _ _ _ zR]; rfl); have f0 : (w1).frozen? ⟨W.heap.size, 0, none⟩ = false := blk_free zR; have s0 := blk_set (w1) W.heap.size 0 _ 40 (.complex .f64 0 0) zR; have f1 : ((w1).setCell ⟨W.heap.size, 0, none⟩ (.complex .f64 0 0)).frozen? ⟨W.heap.size, 1, none⟩ = false := blk_free s0; have s1 := blk_set ((w1).setCell ⟨W.heap.size, 0, none⟩ (.complex .f64 0 0)) W.heap.size 1 _ 40 (.slice none 0 0) s0)
  refine bodyPost_ret (v := .tuple #[.agg #[.complex .f64 0 0, .slice none 0 0], .int .i64 (b : Int), .int .i64 (n : Int)]) ?_ rfl ⟨rfl, ?_⟩
  · rw [results_cell_tmp2 (fn := Tryz.f13) rfl]
    simp only [List.getElem_toArray, Array.getD]
    simp [asAddr, Sem.run_pure, Result.andThen]
    rw [run_loadVar_row _ W.heap.size 40 40 _ _ _ s1 Tryz.underlying40 rfl (by kernel_rfl)]
    rfl
  · exact u0.then (((hb.weak (qs' := [W.heap.size, W.heap.size + 1]) (by simp; omega)).setCell ⟨W.heap.size, 0, none⟩ (.complex .f64 0 0) (.inl (by simp))).setCell ⟨W.heap.size, 1, none⟩ (.slice none 0 0) (.inl (by simp))) (by simp; omega)

set_option linter.unusedSimpArgs false in
set_option maxRecDepth 100000 in
set_option maxHeartbeats 2000000 in
theorem read_no27 (C : Nat) (s : ByteArray) (W : World) (hs : s.size ≤ 65536) (hC : C < W.heap.size) (b n : Nat) (hc : ∀ w, But [] W w → w.heap.size = W.heap.size + 3 → Rdr w (W.heap.size + 1 + 1) s 0 → Calls Tryz.prog 27 #[.pointer (some ⟨W.heap.size + 1 + 1, 0, none⟩), .pointer (some ⟨C, 0, none⟩)] w fun e w' => But [W.heap.size + 1 + 1, C] w w' ∧ e = Fa b n) :
    Calls Tryz.prog 20 #[.string s, .func (Fn.func 27) #[] #[.pointer (some ⟨C, 0, none⟩)]] W fun e w' => e = RdA b n ∧ But [C] W w' := by
  have hmf : ∀ (fn : Fn) (first cap : Array Value) (w : World), (Instr.makeFunc fn first cap).run Tryz.prog w = .ok (.func fn first cap) w := fun _ _ _ _ => rfl
  have t1 : decide ((s.size : Int) > 65536) = false := by simp; omega
  obtain ⟨U, hU⟩ : ∃ U, U = (((W.alloc (.cells #[.int .i64 0] 3)).alloc (.cells #[.int .i64 0] 23)).alloc (.cells #[.string s, .int .i64 0] 70)) := ⟨_, rfl⟩
  have u0 : But [] W U := hU ▸ (((But.refl [] W).alloc _).alloc _).alloc _
  have uS : U.heap.size = W.heap.size + 3 := by rw [hU]; simp
  have uA : U.heap[W.heap.size]? = some (.cells #[.int .i64 0] 3 (0, 0)) := by rw [hU]; exact at0 _ _ _ _
  have uE : U.heap[W.heap.size + 1]? = some (.cells #[.int .i64 0] 23 (0, 0)) := by rw [hU]; exact at1 _ _ _ _
  have uR : Rdr U (W.heap.size + 1 + 1) s 0 := by rw [hU]; exact at2 _ _ _ _
  have hcU := hc U u0 uS uR
  clear hc
  go_enter_defers Tryz.func20, Tryz.ntmps20
  go_wp2_with (go_at_call 27; rw [← hU]; refine hcU.mono ?_; rintro e w1 ⟨hb, he⟩; subst he; simp only [Fa])
  have hb' : But [C, W.heap.size + 1 + 1] U w1 := hb.weak (by simp; omega)
  have bA := hb'.heap uA (by simp; omega)
  have bE := hb'.heap uE (by simp; omega)
  refine leaves_cons (f := 46) (args := #[.pointer (some ⟨W.heap.size, 0, none⟩), .pointer (some ⟨W.heap.size + 1, 0, none⟩)]) (by simp) (by simp [go_sem]) ?_
  refine (catch_panicking W.heap.size (W.heap.size + 1) b n [] _ bA bE (by omega)).mono ?_
  rintro e u' w3 ⟨rfl, rfl, h3, zA, zE⟩
  have c3 : w3.cell? ⟨W.heap.size, 0, none⟩ = some (.int .i64 (b : Int)) := by rw [cell_of_row w3 _ 0 _ _ _ zA]; rfl
  have c4 : w3.cell? ⟨W.heap.size + 1, 0, none⟩ = some (.int .i64 (n : Int)) := by rw [cell_of_row w3 _ 0 _ _ _ zE]; rfl
  simp [Leaves, settle, results, Tryz.results20, go_sem, c3, c4]
  exact ((u0.weak (qs' := [C]) (by simp)).then hb' (by simp; omega)).then h3 (by simp; omega)

set_option linter.unusedSimpArgs false in
set_option maxRecDepth 100000 in
set_option maxHeartbeats 2000000 in
theorem read_no31 (C : Nat) (s : ByteArray) (W : World) (hs : s.size ≤ 65536) (hC : C < W.heap.size) (b n : Nat) (hc : ∀ w, But [] W w → w.heap.size = W.heap.size + 3 → Rdr w (W.heap.size + 1 + 1) s 0 → Calls Tryz.prog 31 #[.pointer (some ⟨W.heap.size + 1 + 1, 0, none⟩), .pointer (some ⟨C, 0, none⟩)] w fun e w' => But [W.heap.size + 1 + 1, C] w w' ∧ e = Fa b n) :
    Calls Tryz.prog 20 #[.string s, .func (Fn.func 31) #[] #[.pointer (some ⟨C, 0, none⟩)]] W fun e w' => e = RdA b n ∧ But [C] W w' := by
  have hmf : ∀ (fn : Fn) (first cap : Array Value) (w : World), (Instr.makeFunc fn first cap).run Tryz.prog w = .ok (.func fn first cap) w := fun _ _ _ _ => rfl
  have t1 : decide ((s.size : Int) > 65536) = false := by simp; omega
  obtain ⟨U, hU⟩ : ∃ U, U = (((W.alloc (.cells #[.int .i64 0] 3)).alloc (.cells #[.int .i64 0] 23)).alloc (.cells #[.string s, .int .i64 0] 70)) := ⟨_, rfl⟩
  have u0 : But [] W U := hU ▸ (((But.refl [] W).alloc _).alloc _).alloc _
  have uS : U.heap.size = W.heap.size + 3 := by rw [hU]; simp
  have uA : U.heap[W.heap.size]? = some (.cells #[.int .i64 0] 3 (0, 0)) := by rw [hU]; exact at0 _ _ _ _
  have uE : U.heap[W.heap.size + 1]? = some (.cells #[.int .i64 0] 23 (0, 0)) := by rw [hU]; exact at1 _ _ _ _
  have uR : Rdr U (W.heap.size + 1 + 1) s 0 := by rw [hU]; exact at2 _ _ _ _
  have hcU := hc U u0 uS uR
  clear hc
  go_enter_defers Tryz.func20, Tryz.ntmps20
  go_wp2_with (go_at_call 31; rw [← hU]; refine hcU.mono ?_; rintro e w1 ⟨hb, he⟩; subst he; simp only [Fa])
  have hb' : But [C, W.heap.size + 1 + 1] U w1 := hb.weak (by simp; omega)
  have bA := hb'.heap uA (by simp; omega)
  have bE := hb'.heap uE (by simp; omega)
  refine leaves_cons (f := 46) (args := #[.pointer (some ⟨W.heap.size, 0, none⟩), .pointer (some ⟨W.heap.size + 1, 0, none⟩)]) (by simp) (by simp [go_sem]) ?_
  refine (catch_panicking W.heap.size (W.heap.size + 1) b n [] _ bA bE (by omega)).mono ?_
  rintro e u' w3 ⟨rfl, rfl, h3, zA, zE⟩
  have c3 : w3.cell? ⟨W.heap.size, 0, none⟩ = some (.int .i64 (b : Int)) := by rw [cell_of_row w3 _ 0 _ _ _ zA]; rfl
  have c4 : w3.cell? ⟨W.heap.size + 1, 0, none⟩ = some (.int .i64 (n : Int)) := by rw [cell_of_row w3 _ 0 _ _ _ zE]; rfl
  simp [Leaves, settle, results, Tryz.results20, go_sem, c3, c4]
  exact ((u0.weak (qs' := [C]) (by simp)).then hb' (by simp; omega)).then h3 (by simp; omega)


set_option linter.unusedSimpArgs false in
set_option maxRecDepth 100000 in
set_option maxHeartbeats 2000000 in
theorem finite_no (R a c : Nat) (s : ByteArray) (hs : s.size ≤ 65536) (ha : a ≤ s.size) (hR : 15 ≤ R) (W : World) (h : Rdr W R s a) (hg : Gl W) (k : nu s.data.toList a = (false, c)) : Calls Tryz.prog 29 #[.pointer (some ⟨R, 0, none⟩)] W fun e w' => e = Fa c 12 ∧ But [R] W w' := by
  obtain ⟨c0, c1, cz⟩ := h.cells
  have hk := nu_no hs ha hR h hg k
  clear h hg cz
  go_enter Tryz.func29, Tryz.ntmps29
  go_wp2_with (go_at_call 22; refine hk.mono ?_; rintro e w1 ⟨he, hb⟩; subst he; simp only [Fa])
  exact ⟨rfl, rfl, hb⟩
def zpkT : List UInt8 := [122, 112, 107, 32]
def fltT : List UInt8 := [102, 105, 108, 116, 101, 114, 32]
set_option linter.unusedSimpArgs false in
set_option maxRecDepth 100000 in
set_option maxHeartbeats 2000000 in
theorem zpk1_no1 (R C b : Nat) (s : ByteArray) (hs : s.size ≤ 65536) (W : World) (h : Rdr W R s 0) (k : tk s.data.toList zpkT 0 = (false, b)) : Calls Tryz.prog 27 #[.pointer (some ⟨R, 0, none⟩), .pointer (some ⟨C, 0, none⟩)] W fun e w' => But [R, C] W w' ∧ e = Fa b (12 : Nat) := by
  have hk := take_no (w0 := W) zpkT (by decide) (by omega) (Nat.zero_le _) h (But.refl _ _) k
  unfold zpkT at hk
  clear h k
  go_enter Tryz.func27, Tryz.ntmps27
  go_wp2_with (go_at_call 28; refine hk.mono ?_; rintro e w1 ⟨he, hb⟩; subst he; simp only [Fa])
  exact ⟨rfl, hb.weak (by simp; omega), rfl⟩
set_option linter.unusedSimpArgs false in
set_option maxRecDepth 100000 in
set_option maxHeartbeats 2000000 in
theorem zpk1_no2 (R C b c : Nat) (s : ByteArray) (hs : s.size ≤ 65536) (hR : 15 ≤ R) (W : World) (h : Rdr W R s 0) (hg : Gl W) (k : tk s.data.toList zpkT 0 = (true, b)) (k2 : nu s.data.toList b = (false, c)) : Calls Tryz.prog 27 #[.pointer (some ⟨R, 0, none⟩), .pointer (some ⟨C, 0, none⟩)] W fun e w' => But [R, C] W w' ∧ e = Fa c (12 : Nat) := by
  have hk := take_ok (w0 := W) zpkT (by decide) (by omega) (Nat.zero_le _) h (But.refl _ _) k
  have hb : b ≤ s.size := by have := tk_le k (Nat.zero_le _); simpa using this
  unfold zpkT at hk
  have K2 := Lib.hid k2
  clear h k k2
  go_enter Tryz.func27, Tryz.ntmps27
  have tok : True := trivial
  go_wp2_with (go_at_call 28; have _t := tok; clear tok; refine hk.mono ?_; rintro e w1 ⟨rfl, hr, hb1⟩)
  have tok : True := trivial
  go_wp2_with (go_at_call 29; have _t := tok; clear tok; refine (finite_no R b c s hs hb hR _ hr (hg.keep hb1 (by simpa using hR)) K2.out).mono ?_; rintro e w2 ⟨he, hb2⟩; subst he; simp only [Fa])
  exact ⟨rfl, (hb1.trans hb2).weak (by simp; omega), rfl⟩
set_option linter.unusedSimpArgs false in
set_option maxRecDepth 100000 in
set_option maxHeartbeats 2000000 in
theorem flt1_no (R C b : Nat) (s : ByteArray) (hs : s.size ≤ 65536) (W : World) (h : Rdr W R s 0) (k : tk s.data.toList fltT 0 = (false, b)) : Calls Tryz.prog 31 #[.pointer (some ⟨R, 0, none⟩), .pointer (some ⟨C, 0, none⟩)] W fun e w' => But [R, C] W w' ∧ e = Fa b (12 : Nat) := by
  have hk := take_no (w0 := W) fltT (by decide) (by omega) (Nat.zero_le _) h (But.refl _ _) k
  unfold fltT at hk
  clear h k
  go_enter Tryz.func31, Tryz.ntmps31
  go_wp2_with (go_at_call 28; refine hk.mono ?_; rintro e w1 ⟨he, hb⟩; subst he; simp only [Fa])
  exact ⟨rfl, hb.weak (by simp; omega), rfl⟩
abbrev ZpE (b c : Nat) : Ending := .returned (.tuple #[.agg #[.slice none 0 0, .slice none 0 0, .complex .f64 0 0], .int .i64 (b : Int), .int .i64 (c : Int)])
abbrev FlE (b c : Nat) : Ending := .returned (.tuple #[.agg #[.complex .f64 0 0, .slice none 0 0], .int .i64 (b : Int), .int .i64 (c : Int)])
theorem Zpk_long (s : ByteArray) (W : World) (hs : 65536 < s.size) (hg : Gl W) : Calls Tryz.prog 12 #[.string s] W fun e w' => e = ZpE 0 2 ∧ But [] W w' :=
  Zpk_fault s W 0 2 rfl (fun C w _ _ _ => (read_long s w _ hs).mono fun e w' h => ⟨h.1, h.2.weak (by simp)⟩) hg
theorem Flt_long (s : ByteArray) (W : World) (hs : 65536 < s.size) (hg : Gl W) : Calls Tryz.prog 13 #[.string s] W fun e w' => e = FlE 0 2 ∧ But [] W w' :=
  Flt_fault s W 0 2 rfl (fun C w _ _ _ => (read_long s w _ hs).mono fun e w' h => ⟨h.1, h.2.weak (by simp)⟩) hg
theorem Zpk_bad1 (s : ByteArray) (W : World) (hs : s.size ≤ 65536) (b : Nat) (k : tk s.data.toList zpkT 0 = (false, b)) (hg : Gl W) : Calls Tryz.prog 12 #[.string s] W fun e w' => e = ZpE b 12 ∧ But [] W w' :=
  Zpk_fault s W b 12 rfl (fun C w _ hC _ => read_no27 C s w hs hC b 12 fun w2 _ _ hr => zpk1_no1 _ C b s hs w2 hr k) hg
theorem Zpk_bad2 (s : ByteArray) (W : World) (hs : s.size ≤ 65536) (b c : Nat) (k : tk s.data.toList zpkT 0 = (true, b)) (k2 : nu s.data.toList b = (false, c)) (hg : Gl W) : Calls Tryz.prog 12 #[.string s] W fun e w' => e = ZpE c 12 ∧ But [] W w' :=
  Zpk_fault s W c 12 rfl (fun C w hb hC hC2 => read_no27 C s w hs hC c 12 fun w2 hb2 _ hr => zpk1_no2 _ C b c s hs (by omega) w2 hr ((hg.keep hb (by simp)).keep hb2 (by simp)) k k2) hg
theorem Flt_bad (s : ByteArray) (W : World) (hs : s.size ≤ 65536) (b : Nat) (k : tk s.data.toList fltT 0 = (false, b)) (hg : Gl W) : Calls Tryz.prog 13 #[.string s] W fun e w' => e = FlE b 12 ∧ But [] W w' :=
  Flt_fault s W b 12 rfl (fun C w _ hC _ => read_no31 C s w hs hC b 12 fun w2 _ _ hr => flt1_no _ C b s hs w2 hr k) hg

end Go.Proofs.YtnghppgpdeghfaaGreatDoor
