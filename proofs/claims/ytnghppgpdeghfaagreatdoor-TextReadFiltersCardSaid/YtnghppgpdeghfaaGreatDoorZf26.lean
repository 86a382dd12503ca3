/- text.ReadFilter. -/
import Derived.Test.YtnghppgpdeghfaaGreatDoorZf25
namespace Go.Proofs.YtnghppgpdeghfaaGreatDoor
open Go.RowKit Go.Proofs.YtnghppgpdeghfaaGreatDoor.Fl Go.Proofs.YtnghppgpdeghfaaGreatDoor.Pt Go.Proofs.YtnghppgpdeghfaaGreatDoor.Tx

set_option linter.unusedSimpArgs false in
set_option maxRecDepth 100000 in
set_option maxHeartbeats 2000000 in
theorem read_ok31 (C : Nat) (s : ByteArray) (W : World) (hs : s.size ≤ 65536) (hC : C < W.heap.size) (G : World → Prop) (hG : ∀ w w', But [W.heap.size, W.heap.size + 1] w w' → G w → G w') (c : Nat) (hcs : ¬ c < s.size) (hc : ∀ w, But [] W w → w.heap.size = W.heap.size + 3 → Rdr w (W.heap.size + 1 + 1) s 0 → Calls Tryz.prog 31 #[.pointer (some ⟨W.heap.size + 1 + 1, 0, none⟩), .pointer (some ⟨C, 0, none⟩)] w fun e w' => But [W.heap.size + 1 + 1, C] w w' ∧ e = .returned (.tuple #[]) ∧ Rdr w' (W.heap.size + 1 + 1) s c ∧ G w') :
    Calls Tryz.prog 20 #[.string s, .func (Fn.func 31) #[] #[.pointer (some ⟨C, 0, none⟩)]] W fun e w' => e = RdA 0 0 ∧ But [C] W w' ∧ G w' := by
  have hmf : ∀ (fn : Fn) (first cap : Array Value) (w : World), (Instr.makeFunc fn first cap).run Tryz.prog w = .ok (.func fn first cap) w := fun _ _ _ _ => rfl
  have t1 : decide ((s.size : Int) > 65536) = false := by simp; omega
  obtain ⟨U, hU⟩ : ∃ U, U = (((W.alloc (.cells #[.int .i64 0] 3)).alloc (.cells #[.int .i64 0] 23)).alloc (.cells #[.string s, .int .i64 0] 70)) := ⟨_, rfl⟩
  have u0 : But [] W U := hU ▸ (((But.refl [] W).alloc _).alloc _).alloc _
  have uS : U.heap.size = W.heap.size + 3 := by rw [hU]; simp
  have uA : U.heap[W.heap.size]? = some (.cells #[.int .i64 0] 3 (0, 0)) := by rw [hU]; exact at0 _ _ _ _
  have uE : U.heap[W.heap.size + 1]? = some (.cells #[.int .i64 0] 23 (0, 0)) := by rw [hU]; exact at1 _ _ _ _
  have uR : Rdr U (W.heap.size + 1 + 1) s 0 := by rw [hU]; exact at2 _ _ _ _
  have hcU := hc U u0 uS uR
  clear hc
  go_enter_defers Tryz.func20, Tryz.ntmps20
  go_wp2_with (first | (go_at_call 31; rw [← hU]; refine hcU.mono ?_; rintro e w1 ⟨hb, rfl, hr, hg1⟩) | (go_at_call 47; refine (end_ok _ c s _ hr hcs).mono ?_; rintro e w2 ⟨hb2, rfl⟩; have hb' : But [C, W.heap.size + 1 + 1] U w2 := (hb.weak (by simp; omega)).trans (hb2.weak (by simp)); have bA := hb'.heap uA (by simp; omega); have bE := hb'.heap uE (by simp; omega); have hG2 := hG w1 w2 (hb2.weak (by simp)) hg1; have ST := two_zero _ _ _ (by omega) bA bE; obtain ⟨zA, zE, fA, fE⟩ := two_cells _ _ _ (by omega) bA bE))
  refine leaves_cons (f := 46) (args := #[.pointer (some ⟨W.heap.size, 0, none⟩), .pointer (some ⟨W.heap.size + 1, 0, none⟩)]) (by simp) (by simp [go_sem]) ?_
  refine (catch_idle W.heap.size (W.heap.size + 1) _).mono ?_
  rintro e u' w3 ⟨rfl, rfl, h3⟩
  have d3 := h3.heap ST.1 (by simp)
  have d4 := h3.heap ST.2.1 (by simp)
  have c3 : w3.cell? ⟨W.heap.size, 0, none⟩ = some (.int .i64 0) := by rw [cell_of_row w3 _ 0 _ _ _ d3]; rfl
  have c4 : w3.cell? ⟨W.heap.size + 1, 0, none⟩ = some (.int .i64 0) := by rw [cell_of_row w3 _ 0 _ _ _ d4]; rfl
  have b3 := ST.2.2.trans (h3.weak (by simp))
  simp [Leaves, settle, results, Tryz.results20, go_sem, c3, c4]
  exact ⟨((u0.weak (qs' := [C]) (by simp)).then hb' (by simp; omega)).then b3 (by simp; omega), hG _ _ b3 hG2⟩
/-- What the variable of ReadFilter holds. -/
def FvA (C B : Nat) (L : List UInt8) (w : World) : Prop := ∃ x y p n k ss, w.heap[C]? = some (.cells #[.complex .f64 x y, .slice p n k] 40 (0, 0)) ∧ OS w B (.slice p n k) ss ∧ FpT L (x, y) ss
theorem FvA.keep {C B : Nat} {L : List UInt8} {w w' : World} {qs : List Nat} (h : FvA C B L w) (k : But qs w w') (hC : C ∉ qs) (hq : ∀ q ∈ qs, q < B) : FvA C B L w' := by
  obtain ⟨x, y, p, n, k', ss, h1, h2, h3⟩ := h
  exact ⟨x, y, p, n, k', ss, k.heap h1 hC, h2.keep k (fun g hg hm => by have := h2.block g hg; have := hq g hm; omega), h3⟩
set_option linter.unusedSimpArgs false in
set_option maxRecDepth 100000 in
set_option maxHeartbeats 2000000 in
theorem Flt_fine (s : ByteArray) (W : World) (hr : ∀ C w, But [] W w → C < w.heap.size → w.heap[C]? = some (.cells #[.complex .f64 0 0, .slice none 0 0] 40 (0, 0)) → 15 ≤ C → Calls Tryz.prog 20 #[.string s, .func (Fn.func 31) #[] #[.pointer (some ⟨C, 0, none⟩)]] w fun e w' => e = RdA 0 0 ∧ But [C] w w' ∧ FvA C (w.heap.size + 3) s.data.toList w') (hg : Gl W) :
    Calls Tryz.prog 13 #[.string s] W fun e w' => But [] W w' ∧ ∃ x y p n k ss, e = .returned (.tuple #[.agg #[.complex .f64 x y, .slice p n k], .int .i64 0, .int .i64 0]) ∧ OS w' W.heap.size (.slice p n k) ss ∧ FpT s.data.toList (x, y) ss := by
  have hmf : ∀ (fn : Fn) (first cap : Array Value) (w : World), (Instr.makeFunc fn first cap).run Tryz.prog w = .ok (.func fn first cap) w := fun _ _ _ _ => rfl
  have hsz := hg.size
  obtain ⟨U, hU⟩ : ∃ U, U = (W.alloc (.cells #[.complex .f64 0 0, .slice none 0 0] 40)).alloc (.cells #[.complex .f64 0 0, .slice none 0 0] 40) := ⟨_, rfl⟩
  have u0 : But [] W U := hU ▸ ((But.refl [] W).alloc _).alloc _
  have uS : U.heap.size = W.heap.size + 2 := by rw [hU]; simp
  have uR : U.heap[W.heap.size]? = some (.cells #[.complex .f64 0 0, .slice none 0 0] 40 (0, 0)) := by rw [hU]; exact a2_0 _ _ _
  have uC : U.heap[W.heap.size + 1]? = some (.cells #[.complex .f64 0 0, .slice none 0 0] 40 (0, 0)) := by rw [hU]; exact a2_1 _ _ _
  have hk := hr (W.heap.size + 1) U u0 (by omega) uC (by omega)
  clear hr
  go_enter Tryz.func13, Tryz.ntmps13
  go_wp2_with (go_at_call 20; rw [← hU]; refine hk.mono ?_; rintro e w1 ⟨rfl, hb, x, y, p, n, k, ss, b5, hz, ht⟩; have zR := hb.heap uR (by simp); have z0 : w1.cell? ⟨W.heap.size, 0, none⟩ = some (.complex .f64 0 0) := (by rw [cell_of_row w1 _ 0 _ _ _ zR]; rfl); have z1 : w1.cell? ⟨W.heap.size, 1, none⟩ = some (.slice none 0 0) := (by rw [cell_of_row w1 _ 1 _ _ _ zR]; rfl); have c0 : w1.cell? ⟨W.heap.size + 1, 0, none⟩ = some (.complex .f64 x y) := (by rw [cell_of_row w1 _ 0 _ _ _ b5]; rfl); have c1 : w1.cell? ⟨W.heap.size + 1, 1, none⟩ = some (.slice p n k) := (by rw [cell_of_row w1 _ 1 _ _ _ b5]; rfl); have f0 : (w1).frozen? ⟨W.heap.size, 0, none⟩ = false := blk_free zR; have s0 := blk_set (w1) W.heap.size 0 _ 40 (.complex .f64 x y) zR; have f1 : ((w1).setCell ⟨W.heap.size, 0, none⟩ (.complex .f64 x y)).frozen? ⟨W.heap.size, 1, none⟩ = false := blk_free s0; have s1 := blk_set ((w1).setCell ⟨W.heap.size, 0, none⟩ (.complex .f64 x y)) W.heap.size 1 _ 40 (.slice p n k) s0)
  refine bodyPost_ret (v := .tuple #[.agg #[.complex .f64 x y, .slice p n k], .int .i64 0, .int .i64 0]) ?_ rfl ?_
  · rw [results_cell_tmp2 (fn := Tryz.f13) rfl]
    simp only [List.getElem_toArray, Array.getD]
    simp [asAddr, Sem.run_pure, Result.andThen]
    rw [run_loadVar_row _ W.heap.size 40 40 _ _ _ s1 Tryz.underlying40 rfl (by kernel_rfl)]
    rfl
  · have hB1 := ((But.refl [W.heap.size] w1).setCell ⟨W.heap.size, 0, none⟩ (.complex .f64 x y) (.inl (by simp))).setCell ⟨W.heap.size, 1, none⟩ (.slice p n k) (.inl (by simp))
    have hBW := u0.then (((hb.weak (qs' := [W.heap.size, W.heap.size + 1]) (by simp; omega)).setCell ⟨W.heap.size, 0, none⟩ (.complex .f64 x y) (.inl (by simp))).setCell ⟨W.heap.size, 1, none⟩ (.slice p n k) (.inl (by simp))) (by simp; omega)
    have hB := u0.size
    have hz' := hz.keep hB1 (fun g hg => by have := hz.block g hg; simp; omega)
    exact ⟨hBW, x, y, p, n, k, ss, rfl, hz'.low (by omega), ht⟩
set_option linter.unusedSimpArgs false in
set_option maxRecDepth 100000 in
set_option maxHeartbeats 2000000 in
theorem Flt_faultV (s : ByteArray) (W : World) (b n : Nat) (hn : ((n : Int) != 0) = true) (hr : ∀ C w, But [] W w → C < w.heap.size → w.heap[C]? = some (.cells #[.complex .f64 0 0, .slice none 0 0] 40 (0, 0)) → 15 ≤ C → Calls Tryz.prog 20 #[.string s, .func (Fn.func 31) #[] #[.pointer (some ⟨C, 0, none⟩)]] w fun e w' => e = RdA b n ∧ But [C] w w') (hg : Gl W) :
    Calls Tryz.prog 13 #[.string s] W fun e w' => e = .returned (.tuple #[.agg #[.complex .f64 0 0, .slice none 0 0], .int .i64 (b : Int), .int .i64 (n : Int)]) ∧ But [] W w' := by
  have hmf : ∀ (fn : Fn) (first cap : Array Value) (w : World), (Instr.makeFunc fn first cap).run Tryz.prog w = .ok (.func fn first cap) w := fun _ _ _ _ => rfl
  have hsz := hg.size
  obtain ⟨U, hU⟩ : ∃ U, U = (W.alloc (.cells #[.complex .f64 0 0, .slice none 0 0] 40)).alloc (.cells #[.complex .f64 0 0, .slice none 0 0] 40) := ⟨_, rfl⟩
  have u0 : But [] W U := hU ▸ ((But.refl [] W).alloc _).alloc _
  have uS : U.heap.size = W.heap.size + 2 := by rw [hU]; simp
  have uR : U.heap[W.heap.size]? = some (.cells #[.complex .f64 0 0, .slice none 0 0] 40 (0, 0)) := by rw [hU]; exact a2_0 _ _ _
  have uC : U.heap[W.heap.size + 1]? = some (.cells #[.complex .f64 0 0, .slice none 0 0] 40 (0, 0)) := by rw [hU]; exact a2_1 _ _ _
  have hk := hr (W.heap.size + 1) U u0 (by omega) uC (by omega)
  clear hr
  go_enter Tryz.func13, Tryz.ntmps13
  go_wp2_with (go_at_call 20; rw [← hU]; refine hk.mono ?_; rintro e w1 ⟨rfl, hb⟩; have zR := hb.heap uR (by simp); have z0 : w1.cell? ⟨W.heap.size, 0, none⟩ = some (.complex .f64 0 0) := (by rw [cell_of_row w1 _ 0 _ _ _ zR]; rfl); have z1 : w1.cell? ⟨W.heap.size, 1, none⟩ = some (.slice none 0 0) := (by rw [cell_of_row w1 _ 1 _ _ _ zR]; rfl); have f0 : (w1).frozen? ⟨W.heap.size, 0, none⟩ = false := blk_free zR; have s0 := blk_set (w1) W.heap.size 0 _ 40 (.complex .f64 0 0) zR; have f1 : ((w1).setCell ⟨W.heap.size, 0, none⟩ (.complex .f64 0 0)).frozen? ⟨W.heap.size, 1, none⟩ = false := blk_free s0; have s1 := blk_set ((w1).setCell ⟨W.heap.size, 0, none⟩ (.complex .f64 0 0)) W.heap.size 1 _ 40 (.slice none 0 0) s0)
  refine bodyPost_ret (v := .tuple #[.agg #[.complex .f64 0 0, .slice none 0 0], .int .i64 (b : Int), .int .i64 (n : Int)]) ?_ rfl ⟨rfl, ?_⟩
  · rw [results_cell_tmp2 (fn := Tryz.f13) rfl]
    simp only [List.getElem_toArray, Array.getD]
    simp [asAddr, Sem.run_pure, Result.andThen]
    rw [run_loadVar_row _ W.heap.size 40 40 _ _ _ s1 Tryz.underlying40 rfl (by kernel_rfl)]
    rfl
  · exact u0.then (((hb.weak (qs' := [W.heap.size, W.heap.size + 1]) (by simp; omega)).setCell ⟨W.heap.size, 0, none⟩ (.complex .f64 0 0) (.inl (by simp))).setCell ⟨W.heap.size, 1, none⟩ (.slice none 0 0) (.inl (by simp))) (by simp; omega)
set_option linter.unusedSimpArgs false in
set_option maxRecDepth 100000 in
set_option maxHeartbeats 2000000 in
theorem flt1_no2 (R C b c : Nat) (s : ByteArray) (hs : s.size ≤ 65536) (hR : 15 ≤ R) (W : World) (h : Rdr W R s 0) (hg : Gl W) (k : tk s.data.toList fltT 0 = (true, b)) (k2 : nu s.data.toList b = (false, c)) : Calls Tryz.prog 31 #[.pointer (some ⟨R, 0, none⟩), .pointer (some ⟨C, 0, none⟩)] W fun e w' => But [R, C] W w' ∧ e = Fa c (12 : Nat) := by
  have hk := take_ok (w0 := W) fltT (by decide) (by omega) (Nat.zero_le _) h (But.refl _ _) k
  have hb : b ≤ s.size := by have := tk_le k (Nat.zero_le _); simpa using this
  unfold fltT at hk
  have K2 := Lib.hid k2
  clear h k k2
  go_enter Tryz.func31, Tryz.ntmps31
  have tok : True := trivial
  go_wp2_with (go_at_call 28; have _t := tok; clear tok; refine hk.mono ?_; rintro e w1 ⟨rfl, hr, hb1⟩)
  have tok : True := trivial
  go_wp2_with (go_at_call 29; have _t := tok; clear tok; refine (finite_no R b c s hs hb hR _ hr (hg.keep hb1 (by simpa using hR)) K2.out).mono ?_; rintro e w2 ⟨he, hb2⟩; subst he; simp only [Fa])
  exact ⟨rfl, (hb1.trans hb2).weak (by simp; omega), rfl⟩
set_option linter.unusedSimpArgs false in
set_option maxRecDepth 100000 in
set_option maxHeartbeats 2000000 in
theorem flt1_nan (R C b c : Nat) (s : ByteArray) (hs : s.size ≤ 65536) (hR : 15 ≤ R) (W : World) (h : Rdr W R s 0) (hg : Gl W) (k : tk s.data.toList fltT 0 = (true, b)) (k2 : nu s.data.toList b = (true, c)) (k3 : ¬ FiN s.data.toList b c) : Calls Tryz.prog 31 #[.pointer (some ⟨R, 0, none⟩), .pointer (some ⟨C, 0, none⟩)] W fun e w' => But [R, C] W w' ∧ e = Fa b (5 : Nat) := by
  have hk := take_ok (w0 := W) fltT (by decide) (by omega) (Nat.zero_le _) h (But.refl _ _) k
  have hb : b ≤ s.size := by have := tk_le k (Nat.zero_le _); simpa using this
  unfold fltT at hk
  have K2 := Lib.hid k2
  clear h k k2
  go_enter Tryz.func31, Tryz.ntmps31
  have tok : True := trivial
  go_wp2_with (go_at_call 28; have _t := tok; clear tok; refine hk.mono ?_; rintro e w1 ⟨rfl, hr, hb1⟩)
  have tok : True := trivial
  go_wp2_with (go_at_call 29; have _t := tok; clear tok; refine (fi_nan hs hb hR hr (hg.keep hb1 (by simpa using hR)) K2.out k3).mono ?_; rintro e w2 ⟨he, hb2⟩; subst he; simp only [Fa])
  exact ⟨rfl, (hb1.trans hb2).weak (by simp; omega), rfl⟩

/-- Every ReadFilter. -/
theorem ReadFilter_any (s : ByteArray) (W : World) (hg : Gl W) : Calls Tryz.prog 13 #[.string s] W fun e w' => (65536 < s.size ∧ e = FlE 0 2 ∧ But [] W w') ∨ (s.size ≤ 65536 ∧ (∃ b f, fp s.data.toList = (false, b, f) ∧ e = FlE b f ∧ But [] W w')) ∨ (s.size ≤ 65536 ∧ (∃ b f, fp s.data.toList = (true, b, f)) ∧ But [] W w' ∧ ∃ x y p n k ss, e = .returned (.tuple #[.agg #[.complex .f64 x y, .slice p n k], .int .i64 0, .int .i64 0]) ∧ OS w' W.heap.size (.slice p n k) ss ∧ FpT s.data.toList (x, y) ss) := by
  by_cases hs : 65536 < s.size
  · exact (Flt_long s W hs hg).mono fun e w' h => .inl ⟨hs, h.1, h.2⟩
  have hs' : s.size ≤ 65536 := by omega
  have key : ∀ b f, fp s.data.toList = (false, b, f) → (Calls Tryz.prog 13 #[.string s] W fun e w' => e = FlE b f ∧ But [] W w') → Calls Tryz.prog 13 #[.string s] W fun e w' => (65536 < s.size ∧ e = FlE 0 2 ∧ But [] W w') ∨ (s.size ≤ 65536 ∧ (∃ b f, fp s.data.toList = (false, b, f) ∧ e = FlE b f ∧ But [] W w')) ∨ (s.size ≤ 65536 ∧ (∃ b f, fp s.data.toList = (true, b, f)) ∧ But [] W w' ∧ ∃ x y p n k ss, e = .returned (.tuple #[.agg #[.complex .f64 x y, .slice p n k], .int .i64 0, .int .i64 0]) ∧ OS w' W.heap.size (.slice p n k) ss ∧ FpT s.data.toList (x, y) ss) :=
    fun b f h hc => hc.mono fun e w' h2 => .inr (.inl ⟨hs', b, f, h, h2.1, h2.2⟩)
  have gl : ∀ (w w2 : World), But [] W w → But [] w w2 → Gl w2 := fun w w2 h1 h2 => (hg.keep h1 (by simp)).keep h2 (by simp)
  rcases pair (x := tk s.data.toList fltT 0) with ⟨b, k1⟩ | ⟨b, k1⟩
  · rcases pair (x := nu s.data.toList b) with ⟨c, k2⟩ | ⟨c, k2⟩
    · by_cases k3 : FiN s.data.toList b c
      · rcases trip (so s.data.toList 18 c 0) with ⟨e2, f2, k6⟩ | ⟨e2, f2, k6⟩
        · refine (Flt_fine s W (fun C w hb hC hv hC2 => ?_) hg).mono fun e w' h => .inr (.inr ⟨hs', ⟨e2, f2, (fp_4 k1 k2 k3).trans k6⟩, h⟩)
          have hw := so_whole _ _ _ _ _ _ k6
          refine read_ok31 C s w hs' hC (FvA C (w.heap.size + 3) s.data.toList) (fun w2 w3 hb2 h => h.keep hb2 (by simp; omega) (by intro q hq; simp at hq; omega)) e2 (by simpa using hw) fun w2 hb2 hsz hr => ?_
          refine (flt1_go _ C s hs' (by omega) hC2 (by omega) w2 hr (gl w w2 hb hb2) (hb2.heap hv (by simp)) b c k1 k2 k3).mono ?_
          rintro e w3 ⟨h1, ⟨h2, x, y, d, ss, p, n, k, hx, h3, h4, h5, h6, h7, h8, h9⟩ | ⟨b, f, h2, _⟩⟩
          · rw [k6] at h3; cases h3
            rw [hsz] at h6
            exact ⟨h1, h2, h4, x, y, p, n, k, ss, h5, h6, fpT_of (g := (x, y)) ⟨hx.1, hx.2.1⟩ hx.2.2.2 (tk_is _ _ _ _ k1) hx.2.2.1 h7 hw h9 h8⟩
          · rw [k6] at h2; cases h2
        · refine key e2 f2 ((fp_4 k1 k2 k3).trans k6) (Flt_faultV s W e2 f2 (err_ne (so_err _ _ _ _ _ _ (by omega) (by omega) k6)) (fun C w hb hC hv hC2 => read_no31 C s w hs' hC e2 f2 fun w2 hb2 _ hr => ?_) hg)
          refine (flt1_go _ C s hs' (by omega) hC2 (by omega) w2 hr (gl w w2 hb hb2) (hb2.heap hv (by simp)) b c k1 k2 k3).mono ?_
          rintro e w3 ⟨h1, ⟨h2, x, y, d, ss, p, n, k, hx, h3, _⟩ | ⟨b, f, h2, h3⟩⟩
          · rw [k6] at h3; cases h3
          · rw [k6] at h2; cases h2
            exact ⟨h1, h3⟩
      · exact key b 5 (fp_3 k1 k2 k3) (Flt_faultV s W b 5 rfl (fun C w hb hC hv hC2 => read_no31 C s w hs' hC b 5 fun w2 hb2 _ hr => flt1_nan _ C b c s hs' (by omega) w2 hr (gl w w2 hb hb2) k1 k2 k3) hg)
    · exact key c 12 (fp_2 k1 k2) (Flt_faultV s W c 12 rfl (fun C w hb hC hv hC2 => read_no31 C s w hs' hC c 12 fun w2 hb2 _ hr => flt1_no2 _ C b c s hs' (by omega) w2 hr (gl w w2 hb hb2) k1 k2) hg)
  · exact key b 12 (fp_1 k1) (Flt_bad s W hs' b k1 hg)
end Go.Proofs.YtnghppgpdeghfaaGreatDoor
