/- The reference's DocReadFilter. numbers, SameFilter. What a builder's writing leaves as it was; text.list of a list made later; text.Filter of a filter that a text said. -/
import Derived.Test.YtnghppgpdeghfaaGreatDoorZf27
namespace Go.Proofs.YtnghppgpdeghfaaGreatDoor
open Go.RowKit Go.Proofs.YtnghppgpdeghfaaGreatDoor.Fl Go.Proofs.YtnghppgpdeghfaaGreatDoor.Pt Go.Proofs.YtnghppgpdeghfaaGreatDoor.Tx

set_option linter.unusedSimpArgs false in
set_option maxRecDepth 100000 in
set_option maxHeartbeats 2000000 in
theorem docf_long (s : ByteArray) (hs : 65536 < s.size) (W : World) : Calls Tryz.prog 17 #[.string s] W fun e w' => e = FlE 0 2 ∧ But [] W w' := by
  have t1 : decide ((s.size : Int) > 65536) = true := by simp; omega
  go_enter Tryz.func17, Tryz.ntmps17
  go_wp2_with fail
  obtain ⟨U, hU⟩ : ∃ U, U = W.alloc (.cells #[.complex .f64 0 0, .slice none 0 0] 40) := ⟨_, rfl⟩
  have u0 : But [] W U := hU ▸ (But.refl [] W).alloc _
  have uA : U.heap[W.heap.size]? = some (.cells #[.complex .f64 0 0, .slice none 0 0] 40 (0, 0)) := by rw [hU]; show (W.heap.push _)[_]? = _; exact Array.getElem?_push_size
  refine bodyPost_ret (v := .tuple #[.agg #[.complex .f64 0 0, .slice none 0 0], .int .i64 0, .int .i64 2]) ?_ rfl ⟨rfl, (But.refl [] W).alloc _⟩
  rw [results_cell_tmp2 (fn := Tryz.f17) rfl]
  simp only [List.getElem_toArray, Array.getD]
  simp [asAddr, Sem.run_pure, Result.andThen]
  rw [← hU, run_loadVar_row _ W.heap.size 40 40 _ _ _ uA Tryz.underlying40 rfl (by kernel_rfl)]
set_option linter.unusedSimpArgs false in
set_option maxRecDepth 100000 in
set_option maxHeartbeats 2000000 in
theorem docf_0 (s : ByteArray) (hs : s.size ≤ 65536) (W : World) (b : Nat)  (kf : tk s.data.toList fltT 0 = (false, b)) : Calls Tryz.prog 17 #[.string s] W fun e w' => e = FlE b 12 ∧ But [] W w' := by
  have t0 : decide ((s.size : Int) > 65536) = false := by simp; omega
  obtain ⟨U, hU⟩ : ∃ U, U = (W.alloc (.cells #[.complex .f64 0 0, .slice none 0 0] 40)).alloc (.cells #[.string s, .int .i64 0, .int .i64 0, .int .i64 0] 60) := ⟨_, rfl⟩
  have u0 : But [] W U := hU ▸ ((But.refl [] W).alloc _).alloc _
  have uS : U.heap.size = W.heap.size + 2 := by rw [hU]; simp
  have uA : U.heap[W.heap.size]? = some (.cells #[.complex .f64 0 0, .slice none 0 0] 40 (0, 0)) := by rw [hU]; exact a2_0 _ _ _
  have uQ : Rr U (W.heap.size + 1) s 0 0 0 := by rw [hU]; exact a2_1 _ _ _
  have KF := Lib.hid kf
  clear kf
  unfold fltT at KF
  go_enter Tryz.func17, Tryz.ntmps17
  have tok : True := trivial
  go_wp2_with (go_at_call 34; rw [← hU]; have _t := tok; clear tok; refine (wt_no (w0 := U) [102, 105, 108, 116, 101, 114, 32] (by decide) hs (Nat.zero_le _) uQ (But.refl _ _) KF.out).mono ?_; rintro e w1 ⟨rfl, hr1, hb1⟩)
  have tok : True := trivial
  go_wp2_with (go_at_call 23; have _t := tok; clear tok; refine (nt_o rfl rfl hr1 hb1).mono ?_; rintro e w2 ⟨rfl, hr2, hb2⟩)
  obtain ⟨V, hV⟩ : ∃ V, V = w2.alloc (.cells #[.complex .f64 0 0, .slice none 0 0] 40) := ⟨_, rfl⟩
  have v0 : But [] w2 V := hV ▸ (But.refl [] w2).alloc _
  have hrV := hr2.keep v0 (by simp)
  have hs2 := hb2.size
  have hbUV : But [W.heap.size + 1] U V := hb2.trans (v0.weak (by simp))
  go_wp2_with fail
  rw [← hV]
  clear hV v0
  refine wp_loop_rounds 1 ?_
  rw [rounds_succ]
  obtain ⟨z0, z1, z2, z3, zf⟩ := hrV.cells
  clear zf
  have HR := Lib.hid hrV
  clear hrV hr1 hr2
  go_wp2_with fail
  go_quiet (fail)
  have hrq := HR.out.keep ((But.refl [] V).drewN nq) (by simp)
  have hbq := hbUV.trans ((But.refl [W.heap.size + 1] V).drewN nq)
  have tok : True := trivial
  go_wp2_with (go_at_call 24; have _t := tok; clear tok; refine (rend_off _ _ _ 12 rfl s _ hrq).mono ?_; rintro e w6 ⟨rfl, hb6⟩; have hb6w := hbq.trans (hb6.weak (by simp)); have zR := hb6w.heap uA (by simp); have q0 : w6.cell? ⟨W.heap.size, 0, none⟩ = some (.complex .f64 0 0) := (by rw [cell_of_row w6 _ 0 _ _ _ zR]; rfl); have q1 : w6.cell? ⟨W.heap.size, 1, none⟩ = some (.slice none 0 0) := (by rw [cell_of_row w6 _ 1 _ _ _ zR]; rfl); have g0 : (w6).frozen? ⟨W.heap.size, 0, none⟩ = false := blk_free zR; have s0 := blk_set (w6) W.heap.size 0 _ 40 (.complex .f64 0 0) zR; have g1 : ((w6).setCell ⟨W.heap.size, 0, none⟩ (.complex .f64 0 0)).frozen? ⟨W.heap.size, 1, none⟩ = false := blk_free s0; have s1 := blk_set ((w6).setCell ⟨W.heap.size, 0, none⟩ (.complex .f64 0 0)) W.heap.size 1 _ 40 (.slice none 0 0) s0)
  refine bodyPost_ret (v := .tuple #[.agg #[.complex .f64 0 0, .slice none 0 0], .int .i64 ((b : Nat) : Int), .int .i64 ((12 : Nat) : Int)]) ?_ rfl ?_
  · rw [results_cell_tmp2 (fn := Tryz.f17) rfl]
    simp only [List.getElem_toArray, Array.getD]
    simp [asAddr, Sem.run_pure, Result.andThen]
    rw [run_loadVar_row _ W.heap.size 40 40 _ _ _ s1 Tryz.underlying40 rfl (by kernel_rfl)]
    rfl
  · have hB1 := ((But.refl [W.heap.size] w6).setCell ⟨W.heap.size, 0, none⟩ (.complex .f64 0 0) (.inl (by simp))).setCell ⟨W.heap.size, 1, none⟩ (.slice none 0 0) (.inl (by simp))
    exact ⟨rfl, u0.then (qs := []) ((hb6w.weak (qs' := [W.heap.size, W.heap.size + 1]) (by simp; omega)).trans (hB1.weak (by simp; omega))) (by simp; omega)⟩
set_option linter.unusedSimpArgs false in
set_option maxRecDepth 100000 in
set_option maxHeartbeats 2000000 in
theorem docf_1 (s : ByteArray) (hs : s.size ≤ 65536) (W : World) (b : Nat) (k1 : tk s.data.toList fltT 0 = (true, b)) (p f : Nat) (hf0 : ((f : Int) == 0) = false) (hf1 : ((f : Int) != 0) = true) (kf : ((nu s.data.toList b = (false, p) ∧ f = 12) ∨ ∃ c, nu s.data.toList b = (true, c) ∧ (¬ FiN s.data.toList b c) ∧ f = 5 ∧ p = b)) : Calls Tryz.prog 17 #[.string s] W fun e w' => e = FlE p f ∧ But [] W w' := by
  have t0 : decide ((s.size : Int) > 65536) = false := by simp; omega
  obtain ⟨U, hU⟩ : ∃ U, U = (W.alloc (.cells #[.complex .f64 0 0, .slice none 0 0] 40)).alloc (.cells #[.string s, .int .i64 0, .int .i64 0, .int .i64 0] 60) := ⟨_, rfl⟩
  have u0 : But [] W U := hU ▸ ((But.refl [] W).alloc _).alloc _
  have uS : U.heap.size = W.heap.size + 2 := by rw [hU]; simp
  have uA : U.heap[W.heap.size]? = some (.cells #[.complex .f64 0 0, .slice none 0 0] 40 (0, 0)) := by rw [hU]; exact a2_0 _ _ _
  have uQ : Rr U (W.heap.size + 1) s 0 0 0 := by rw [hU]; exact a2_1 _ _ _
  have l1 : b ≤ s.size := by have := tk_le k1 (Nat.zero_le _); simpa using this
  have K1 := Lib.hid k1
  clear k1
  unfold fltT at K1
  have KF := Lib.hid kf
  clear kf
  go_enter Tryz.func17, Tryz.ntmps17
  have tok : True := trivial
  go_wp2_with (go_at_call 34; rw [← hU]; have _t := tok; clear tok; refine (wt_ok (w0 := U) [102, 105, 108, 116, 101, 114, 32] (by decide) hs (Nat.zero_le _) uQ (But.refl _ _) K1.out).mono ?_; rintro e w1 ⟨rfl, hr1, hb1⟩)
  have tok : True := trivial
  go_wp2_with (go_at_call 23; have _t := tok; clear tok; refine (nt_bad hs l1 hr1 hb1 KF.out).mono ?_; rintro e w2 ⟨x, y, dd, rfl, hr2, hb2⟩)
  obtain ⟨V, hV⟩ : ∃ V, V = w2.alloc (.cells #[.complex .f64 x y, .slice none 0 0] 40) := ⟨_, rfl⟩
  have v0 : But [] w2 V := hV ▸ (But.refl [] w2).alloc _
  have hrV := hr2.keep v0 (by simp)
  have hs2 := hb2.size
  have hbUV : But [W.heap.size + 1] U V := hb2.trans (v0.weak (by simp))
  go_wp2_with fail
  rw [← hV]
  clear hV v0
  refine wp_loop_rounds 1 ?_
  rw [rounds_succ]
  obtain ⟨z0, z1, z2, z3, zf⟩ := hrV.cells
  clear zf
  have HR := Lib.hid hrV
  clear hrV hr1 hr2
  go_wp2_with fail
  go_quiet (fail)
  have hrq := HR.out.keep ((But.refl [] V).drewN nq) (by simp)
  have hbq := hbUV.trans ((But.refl [W.heap.size + 1] V).drewN nq)
  have tok : True := trivial
  go_wp2_with (go_at_call 24; have _t := tok; clear tok; refine (rend_off _ _ _ f hf0 s _ hrq).mono ?_; rintro e w6 ⟨rfl, hb6⟩; have hb6w := hbq.trans (hb6.weak (by simp)); have zR := hb6w.heap uA (by simp); have q0 : w6.cell? ⟨W.heap.size, 0, none⟩ = some (.complex .f64 0 0) := (by rw [cell_of_row w6 _ 0 _ _ _ zR]; rfl); have q1 : w6.cell? ⟨W.heap.size, 1, none⟩ = some (.slice none 0 0) := (by rw [cell_of_row w6 _ 1 _ _ _ zR]; rfl); have g0 : (w6).frozen? ⟨W.heap.size, 0, none⟩ = false := blk_free zR; have s0 := blk_set (w6) W.heap.size 0 _ 40 (.complex .f64 0 0) zR; have g1 : ((w6).setCell ⟨W.heap.size, 0, none⟩ (.complex .f64 0 0)).frozen? ⟨W.heap.size, 1, none⟩ = false := blk_free s0; have s1 := blk_set ((w6).setCell ⟨W.heap.size, 0, none⟩ (.complex .f64 0 0)) W.heap.size 1 _ 40 (.slice none 0 0) s0)
  refine bodyPost_ret (v := .tuple #[.agg #[.complex .f64 0 0, .slice none 0 0], .int .i64 ((p : Nat) : Int), .int .i64 ((f : Nat) : Int)]) ?_ rfl ?_
  · rw [results_cell_tmp2 (fn := Tryz.f17) rfl]
    simp only [List.getElem_toArray, Array.getD]
    simp [asAddr, Sem.run_pure, Result.andThen]
    rw [run_loadVar_row _ W.heap.size 40 40 _ _ _ s1 Tryz.underlying40 rfl (by kernel_rfl)]
    rfl
  · have hB1 := ((But.refl [W.heap.size] w6).setCell ⟨W.heap.size, 0, none⟩ (.complex .f64 0 0) (.inl (by simp))).setCell ⟨W.heap.size, 1, none⟩ (.slice none 0 0) (.inl (by simp))
    exact ⟨rfl, u0.then (qs := []) ((hb6w.weak (qs' := [W.heap.size, W.heap.size + 1]) (by simp; omega)).trans (hB1.weak (by simp; omega))) (by simp; omega)⟩

/-- Every DocReadFilter. -/
theorem DocReadFilter_any (s : ByteArray) (W : World) : Calls Tryz.prog 17 #[.string s] W fun e w' => (65536 < s.size ∧ e = FlE 0 2 ∧ But [] W w') ∨ (s.size ≤ 65536 ∧ (∃ b f, fp s.data.toList = (false, b, f) ∧ e = FlE b f ∧ But [] W w')) ∨ (s.size ≤ 65536 ∧ (∃ b f, fp s.data.toList = (true, b, f)) ∧ But [] W w' ∧ ∃ x y p n k ss, e = .returned (.tuple #[.agg #[.complex .f64 x y, .slice p n k], .int .i64 0, .int .i64 0]) ∧ OS w' W.heap.size (.slice p n k) ss ∧ FpT s.data.toList (x, y) ss) := by
  by_cases hs : 65536 < s.size
  · exact (docf_long s hs W).mono fun e w' h => .inl ⟨hs, h.1, h.2⟩
  have hs' : s.size ≤ 65536 := by omega
  have key : ∀ b f, fp s.data.toList = (false, b, f) → (Calls Tryz.prog 17 #[.string s] W fun e w' => e = FlE b f ∧ But [] W w') → Calls Tryz.prog 17 #[.string s] W fun e w' => (65536 < s.size ∧ e = FlE 0 2 ∧ But [] W w') ∨ (s.size ≤ 65536 ∧ (∃ b f, fp s.data.toList = (false, b, f) ∧ e = FlE b f ∧ But [] W w')) ∨ (s.size ≤ 65536 ∧ (∃ b f, fp s.data.toList = (true, b, f)) ∧ But [] W w' ∧ ∃ x y p n k ss, e = .returned (.tuple #[.agg #[.complex .f64 x y, .slice p n k], .int .i64 0, .int .i64 0]) ∧ OS w' W.heap.size (.slice p n k) ss ∧ FpT s.data.toList (x, y) ss) :=
    fun b f h hc => hc.mono fun e w' h2 => .inr (.inl ⟨hs', b, f, h, h2.1, h2.2⟩)
  rcases pair (x := tk s.data.toList fltT 0) with ⟨b, k1⟩ | ⟨b, k1⟩
  · rcases pair (x := nu s.data.toList b) with ⟨c, k2⟩ | ⟨c, k2⟩
    · by_cases k3 : FiN s.data.toList b c
      · refine (docf_go s hs' W b c k1 k2 k3).mono ?_
        rintro e w' (⟨h1, x, y, p, n, k, ss, d, hx, h3, h4, h5, h6, h7, h8⟩ | ⟨h1, d, f, h2, h3⟩)
        · exact .inr (.inr ⟨hs', ⟨d, 0, (fp_4 k1 k2 k3).trans h3⟩, h1, x, y, p, n, k, ss, h4, h5, fpT_of (g := (x, y)) ⟨hx.1, hx.2.1⟩ hx.2.2.2 (tk_is _ _ _ _ k1) hx.2.2.1 h6 (so_whole _ _ _ _ _ _ h3) h8 h7⟩)
        · exact .inr (.inl ⟨hs', d, f, (fp_4 k1 k2 k3).trans h2, h3, h1⟩)
      · exact key b 5 (fp_3 k1 k2 k3) (docf_1 s hs' W b k1 b 5 rfl rfl (.inr ⟨c, k2, k3, rfl, rfl⟩))
    · exact key c 12 (fp_2 k1 k2) (docf_1 s hs' W b k1 c 12 rfl rfl (.inl ⟨k2, rfl⟩))
  · exact key b 12 (fp_1 k1) (docf_0 s hs' W b k1)
theorem fp_err (L : List UInt8) (b f : Nat) (h : fp L = (false, b, f)) : f = 12 ∨ f = 2 ∨ f = 5 := by
  rcases pair (x := tk L fltT 0) with ⟨b1, k1⟩ | ⟨b1, k1⟩
  · rcases pair (x := nu L b1) with ⟨c, k2⟩ | ⟨c, k2⟩
    · by_cases k3 : FiN L b1 c
      · rw [fp_4 k1 k2 k3] at h; exact so_err _ _ _ _ _ _ (by omega) (by omega) h
      · rw [fp_3 k1 k2 k3] at h; cases h; exact .inr (.inr rfl)
    · rw [fp_2 k1 k2] at h; cases h; exact .inl rfl
  · rw [fp_1 k1] at h; cases h; exact .inl rfl
end Go.Proofs.YtnghppgpdeghfaaGreatDoor
namespace Go.Proofs.YtnghppgpdeghfaaGreatDoor
open Go.RowKit Go.Proofs.YtnghppgpdeghfaaGreatDoor.Fl Go.Proofs.YtnghppgpdeghfaaGreatDoor.Pt Go.Proofs.YtnghppgpdeghfaaGreatDoor.Tx

set_option linter.unusedSimpArgs false in
set_option maxRecDepth 100000 in
set_option maxHeartbeats 4000000 in
theorem numbers44 (p0 p1 p2 p3 p4 : Nat × Nat) (W : World) : Calls Tryz.prog 44 #[.agg #[.complex .f64 p0.1 p0.2, .complex .f64 p1.1 p1.2, .complex .f64 p2.1 p2.2, .complex .f64 p3.1 p3.2, .complex .f64 p4.1 p4.2]] W fun e w' => ∃ q n k, e = .returned (.slice q n k) ∧ OZ w' W.heap.size (.slice q n k) [p0, p1, p2, p3, p4] ∧ But [] W w' := by
  obtain ⟨U, hU⟩ : ∃ U, U = (W.alloc (.cells #[.complex .f64 p0.1 p0.2, .complex .f64 p1.1 p1.2, .complex .f64 p2.1 p2.2, .complex .f64 p3.1 p3.2, .complex .f64 p4.1 p4.2] 75)).alloc (.cells #[.complex .f64 p0.1 p0.2, .complex .f64 p1.1 p1.2, .complex .f64 p2.1 p2.2, .complex .f64 p3.1 p3.2, .complex .f64 p4.1 p4.2] 22) := ⟨_, rfl⟩
  have u0 : But [] W U := hU ▸ ((But.refl [] W).alloc _).alloc _
  have uB : U.heap[W.heap.size + 1]? = some (.cells #[.complex .f64 p0.1 p0.2, .complex .f64 p1.1 p1.2, .complex .f64 p2.1 p2.2, .complex .f64 p3.1 p3.2, .complex .f64 p4.1 p4.2] 22 (0, 0)) := by rw [hU]; exact a2_1 _ _ _
  go_enter Tryz.func44, Tryz.ntmps44
  go_wp2_with fail
  go_ret
  rw [← hU]
  exact ⟨_, _, _, rfl, ⟨rfl, .inr ⟨W.heap.size + 1, 5, _, by simp, by omega, uB, by simp, by unfold maxLen; simp, rfl, rfl⟩⟩, u0⟩
set_option linter.unusedSimpArgs false in
set_option maxRecDepth 100000 in
set_option maxHeartbeats 4000000 in
theorem numbers45 (p0 p1 p2 p3 p4 : Nat × Nat) (W : World) : Calls Tryz.prog 45 #[.agg #[.complex .f64 p0.1 p0.2, .complex .f64 p1.1 p1.2, .complex .f64 p2.1 p2.2, .complex .f64 p3.1 p3.2, .complex .f64 p4.1 p4.2]] W fun e w' => ∃ q n k, e = .returned (.slice q n k) ∧ OZ w' W.heap.size (.slice q n k) [p0, p1, p2, p3, p4] ∧ But [] W w' := by
  obtain ⟨U, hU⟩ : ∃ U, U = (W.alloc (.cells #[.complex .f64 p0.1 p0.2, .complex .f64 p1.1 p1.2, .complex .f64 p2.1 p2.2, .complex .f64 p3.1 p3.2, .complex .f64 p4.1 p4.2] 75)).alloc (.cells #[.complex .f64 p0.1 p0.2, .complex .f64 p1.1 p1.2, .complex .f64 p2.1 p2.2, .complex .f64 p3.1 p3.2, .complex .f64 p4.1 p4.2] 22) := ⟨_, rfl⟩
  have u0 : But [] W U := hU ▸ ((But.refl [] W).alloc _).alloc _
  have uB : U.heap[W.heap.size + 1]? = some (.cells #[.complex .f64 p0.1 p0.2, .complex .f64 p1.1 p1.2, .complex .f64 p2.1 p2.2, .complex .f64 p3.1 p3.2, .complex .f64 p4.1 p4.2] 22 (0, 0)) := by rw [hU]; exact a2_1 _ _ _
  go_enter Tryz.func45, Tryz.ntmps45
  go_wp2_with fail
  go_ret
  rw [← hU]
  exact ⟨_, _, _, rfl, ⟨rfl, .inr ⟨W.heap.size + 1, 5, _, by simp, by omega, uB, by simp, by unfold maxLen; simp, rfl, rfl⟩⟩, u0⟩
theorem OS.nilF {w : World} {B : Nat} {v : Value} {l : Secs} (h : OS w B v l) (h0 : l.length = 0) : ∃ p cap, v = .slice p 0 cap := by
  rcases h.form with ⟨rfl, _⟩ | ⟨g, cap, cur, rfl, _⟩
  · exact ⟨_, _, rfl⟩
  · exact ⟨_, _, by rw [h0]⟩
theorem OS.someF {w : World} {B : Nat} {v : Value} {l : Secs} (h : OS w B v l) (h0 : ¬ l.length = 0) : ∃ g cap cur, v = .slice (some ⟨g, 0, none⟩) l.length cap ∧ w.heap[g]? = some (.cells cur 75 (0, 0)) ∧ l.length ≤ cap ∧ ∀ (j : Nat) (u : Value), (scC l)[j]? = some u → w.cell? ⟨g, j, none⟩ = some u := by
  rcases h.form with ⟨rfl, h1⟩ | ⟨g, cap, cur, rfl, h1, h2, h3, h4⟩
  · rw [h1] at h0; simp at h0
  · exact ⟨g, cap, cur, rfl, h2, h3, h4⟩
/-- The five cells of a section. -/
theorem five_of {w : World} {g : Nat} {l : Secs} (hc : ∀ (j : Nat) (u : Value), (scC l)[j]? = some u → w.cell? ⟨g, j, none⟩ = some u) (h5 : ∀ x ∈ l, x.length = 5) (k : Nat) (p0 p1 p2 p3 p4 : Nat × Nat) (hx : l[k]? = some [p0, p1, p2, p3, p4]) :
    w.cell? ⟨g, k * 5, none⟩ = some (.complex .f64 p0.1 p0.2) ∧ w.cell? ⟨g, k * 5 + 1, none⟩ = some (.complex .f64 p1.1 p1.2) ∧ w.cell? ⟨g, k * 5 + 2, none⟩ = some (.complex .f64 p2.1 p2.2) ∧ w.cell? ⟨g, k * 5 + 3, none⟩ = some (.complex .f64 p3.1 p3.2) ∧ w.cell? ⟨g, k * 5 + 4, none⟩ = some (.complex .f64 p4.1 p4.2) :=
  ⟨hc _ _ (scC_at l h5 k 0 _ _ hx rfl), hc _ _ (scC_at l h5 k 1 _ _ hx rfl), hc _ _ (scC_at l h5 k 2 _ _ hx rfl), hc _ _ (scC_at l h5 k 3 _ _ hx rfl), hc _ _ (scC_at l h5 k 4 _ _ hx rfl)⟩
set_option linter.unusedSimpArgs false in
set_option maxRecDepth 100000 in
set_option maxHeartbeats 4000000 in
theorem sflt_true (x y x2 y2 : Nat) (hg1 : Wf (x, y)) (hg2 : Wf (x2, y2)) (hq : eqC (x, y) (x2, y2)) (pa : Option Addr) (na ka : Nat) (pb : Option Addr) (nb kb : Nat) (B1 B2 : Nat) (ss ts : Secs) (W : World)
    (ws : ∀ z ∈ ss, Sc5 z) (wt : ∀ z ∈ ts, Sc5 z) (he : eqS ss ts) (h63 : ss.length ≤ 1000) (h1 : OS W B1 (.slice pa na ka) ss) (h2 : OS W B2 (.slice pb nb kb) ts) :
    Calls Tryz.prog 18 #[.agg #[.complex .f64 x y, .slice pa na ka], .agg #[.complex .f64 x2 y2, .slice pb nb kb]] W fun e w' => e = .returned (.bool true) ∧ But [] W w' := by
  have hn := he.len
  have n1 := h1.len
  have n2 := h2.len
  by_cases h0 : ss.length = 0
  · obtain ⟨U, hU⟩ : ∃ U, U = (W.alloc (.cells #[.complex .f64 x y, .slice pa 0 ka] 40)).alloc (.cells #[.complex .f64 x2 y2, .slice pb 0 kb] 40) := ⟨_, rfl⟩
    have u0 : But [] W U := hU ▸ ((But.refl [] W).alloc _).alloc _
    have uA : U.heap[W.heap.size]? = some (.cells #[.complex .f64 x y, .slice pa 0 ka] 40 (0, 0)) := by rw [hU]; exact a2_0 _ _ _
    have uB : U.heap[W.heap.size + 1]? = some (.cells #[.complex .f64 x2 y2, .slice pb 0 kb] 40 (0, 0)) := by rw [hU]; exact a2_1 _ _ _
    obtain rfl : na = 0 := by omega
    obtain rfl : nb = 0 := by omega
    have ca : U.cell? ⟨W.heap.size, 1, none⟩ = some (.slice pa 0 ka) := by rw [cell_of_row U _ 1 _ _ _ uA]; rfl
    have cb : U.cell? ⟨W.heap.size + 1, 1, none⟩ = some (.slice pb 0 kb) := by rw [cell_of_row U _ 1 _ _ _ uB]; rfl
    clear h1 h2 he hn n1 n2 h0 h63
    go_enter Tryz.func18, Tryz.ntmps18
    have tok : True := trivial
    go_wp2_with (go_at_call 10; rw [← hU]; clear hU; have _t := tok; clear tok; refine (same_c x y x2 y2 hg1.1 hg1.2 hg2.1 hg2.2 hq.1 hq.2 _).mono ?_; rintro e w3 ⟨rfl, hw3⟩; rw [hw3]; clear hw3 w3)
    refine wp_loop_rounds 1 ?_
    rw [rounds_succ]
    go_wp2_with fail
    go_ret
    exact ⟨rfl, u0⟩
  · obtain ⟨g1, c1, cur1, e1, ha, hc1, hx1⟩ := h1.someF h0
    obtain ⟨g2, c2, cur2, e2, hb, hc2, hx2⟩ := h2.someF (by omega)
    injection e1 with e11 e12 e13
    injection e2 with e21 e22 e23
    subst e11 e21 e13 e23
    obtain ⟨n, hnn⟩ : ∃ n, n = ss.length := ⟨_, rfl⟩
    obtain rfl : na = n := by omega
    obtain rfl : nb = na := by omega
    obtain ⟨U, hU⟩ : ∃ U, U = (W.alloc (.cells #[.complex .f64 x y, .slice (some ⟨g1, 0, none⟩) nb ka] 40)).alloc (.cells #[.complex .f64 x2 y2, .slice (some ⟨g2, 0, none⟩) nb kb] 40) := ⟨_, rfl⟩
    have u0 : But [] W U := hU ▸ ((But.refl [] W).alloc _).alloc _
    have uA : U.heap[W.heap.size]? = some (.cells #[.complex .f64 x y, .slice (some ⟨g1, 0, none⟩) nb ka] 40 (0, 0)) := by rw [hU]; exact a2_0 _ _ _
    have uB : U.heap[W.heap.size + 1]? = some (.cells #[.complex .f64 x2 y2, .slice (some ⟨g2, 0, none⟩) nb kb] 40 (0, 0)) := by rw [hU]; exact a2_1 _ _ _
    have ca : U.cell? ⟨W.heap.size, 1, none⟩ = some (.slice (some ⟨g1, 0, none⟩) nb ka) := by rw [cell_of_row U _ 1 _ _ _ uA]; rfl
    have cb : U.cell? ⟨W.heap.size + 1, 1, none⟩ = some (.slice (some ⟨g2, 0, none⟩) nb kb) := by rw [cell_of_row U _ 1 _ _ _ uB]; rfl
    have HE := Lib.hid he
    have HN := Lib.hid hnn
    have HN2 := Lib.hid hn
    have HX1 := Lib.hid (show ∀ (j : Nat) (u : Value), (scC ss)[j]? = some u → U.cell? ⟨g1, j, none⟩ = some u from fun j u h => u0.cell (hx1 j u h) (by simp))
    have HX2 := Lib.hid (show ∀ (j : Nat) (u : Value), (scC ts)[j]? = some u → U.cell? ⟨g2, j, none⟩ = some u from fun j u h => u0.cell (hx2 j u h) (by simp))
    have WS := Lib.hid ws
    have WT := Lib.hid wt
    have h63' : nb ≤ 1000 := by omega
    clear h1 h2 he hn n1 n2 h0 h63 hx1 hx2 ha hb hnn ws wt e12 e22
    go_enter Tryz.func18, Tryz.ntmps18
    have tok : True := trivial
    go_wp2_with (go_at_call 10; rw [← hU]; clear hU; have _t := tok; clear tok; refine (same_c x y x2 y2 hg1.1 hg1.2 hg2.1 hg2.2 hq.1 hq.2 _).mono ?_; rintro e w3 ⟨rfl, hw3⟩; rw [hw3]; clear hw3 w3)
    go_loopw [24] (fun i wr => ∃ k : Nat, k ≤ nb ∧ i = .int .i64 k ∧ But [] U wr) (fun i _ => nb - kOf i)
    case atStart => exact ⟨0, Nat.zero_le _, rfl, But.refl _ _⟩
    case round =>
      obtain ⟨k, hk, rfl, hbt⟩ := hrel
      by_cases hlt : k < nb
      · have hx0 := List.getElem?_eq_getElem (l := ss) (i := k) (by have := HN.out; omega)
        have hy0 := List.getElem?_eq_getElem (l := ts) (i := k) (by have := HN.out; have := HN2.out; omega)
        obtain ⟨xs, hxv⟩ : ∃ p, ss[k]? = some p := ⟨_, hx0⟩
        obtain ⟨ys, hyv⟩ : ∃ p, ts[k]? = some p := ⟨_, hy0⟩
        have sx := WS.out _ (List.mem_of_getElem? hxv)
        have sy := WT.out _ (List.mem_of_getElem? hyv)
        have heq := HE.out.at k _ _ hxv hyv
        obtain ⟨p0, p1, p2, p3, p4, rfl⟩ := five xs sx.1
        obtain ⟨q0, q1, q2, q3, q4, rfl⟩ := five ys sy.1
        obtain ⟨a0, a1, a2, a3, a4⟩ := five_of HX1.out (fun z hz => (WS.out z hz).1) k p0 p1 p2 p3 p4 hxv
        obtain ⟨b0, b1, b2, b3, b4⟩ := five_of HX2.out (fun z hz => (WT.out z hz).1) k q0 q1 q2 q3 q4 hyv
        have HQ := Lib.hid heq
        have WP := Lib.hid sx.wf
        have WQ := Lib.hid sy.wf
        have h0 := hbt.cell ca (by simp)
        have h1 := hbt.cell cb (by simp)
        have h2 := hbt.cell a0 (by simp)
        have h3 := hbt.cell a1 (by simp)
        have h4 := hbt.cell a2 (by simp)
        have h5 := hbt.cell a3 (by simp)
        have h6 := hbt.cell a4 (by simp)
        have h7 := hbt.cell b0 (by simp)
        have h8 := hbt.cell b1 (by simp)
        have h9 := hbt.cell b2 (by simp)
        have h10 := hbt.cell b3 (by simp)
        have h11 := hbt.cell b4 (by simp)
        have t1 : (k : Int) < nb := by omega
        clear hx0 hy0 hxv hyv sx sy heq a0 a1 a2 a3 a4 b0 b1 b2 b3 b4
        go_wp2_with fail
        refine wp_region_noPanic ?_
        refine wp_region_held_drew (S := fun w' => w'.cell? ⟨W.heap.size, 1, none⟩ = some (.slice (some ⟨g1, 0, none⟩) nb ka) ∧ w'.cell? ⟨W.heap.size + 1, 1, none⟩ = some (.slice (some ⟨g2, 0, none⟩) nb kb) ∧ w'.cell? ⟨g1, k * 5, none⟩ = some (.complex .f64 p0.1 p0.2) ∧ w'.cell? ⟨g1, k * 5 + 1, none⟩ = some (.complex .f64 p1.1 p1.2) ∧ w'.cell? ⟨g1, k * 5 + 2, none⟩ = some (.complex .f64 p2.1 p2.2) ∧ w'.cell? ⟨g1, k * 5 + 3, none⟩ = some (.complex .f64 p3.1 p3.2) ∧ w'.cell? ⟨g1, k * 5 + 4, none⟩ = some (.complex .f64 p4.1 p4.2) ∧ w'.cell? ⟨g2, k * 5, none⟩ = some (.complex .f64 q0.1 q0.2) ∧ w'.cell? ⟨g2, k * 5 + 1, none⟩ = some (.complex .f64 q1.1 q1.2) ∧ w'.cell? ⟨g2, k * 5 + 2, none⟩ = some (.complex .f64 q2.1 q2.2) ∧ w'.cell? ⟨g2, k * 5 + 3, none⟩ = some (.complex .f64 q3.1 q3.2) ∧ w'.cell? ⟨g2, k * 5 + 4, none⟩ = some (.complex .f64 q4.1 q4.2)) (by kernel_rfl) ?_ (fun hHeld => ?_)
        · (try dsimp only); exact ⟨((But.refl [] wr).drew).cell h0 (by simp), ((But.refl [] wr).drew).cell h1 (by simp), ((But.refl [] wr).drew).cell h2 (by simp), ((But.refl [] wr).drew).cell h3 (by simp), ((But.refl [] wr).drew).cell h4 (by simp), ((But.refl [] wr).drew).cell h5 (by simp), ((But.refl [] wr).drew).cell h6 (by simp), ((But.refl [] wr).drew).cell h7 (by simp), ((But.refl [] wr).drew).cell h8 (by simp), ((But.refl [] wr).drew).cell h9 (by simp), ((But.refl [] wr).drew).cell h10 (by simp), ((But.refl [] wr).drew).cell h11 (by simp)⟩
        (refine wpAnyH_take (i := 0) (oi := _) (v := _) rfl (by decide +kernel) (by decide +kernel) (by decide +kernel) (fun _ _ _ h => h) (Or.inl ⟨by rfl, by (intro w hSw; (try dsimp only at hSw); go_simp; try with_reducible rfl)⟩) (by assumption) ?_; (try simp only [Act.put, List.setIfInBounds_toArray, List.set_cons_zero, List.set_cons_succ, List.getElem_toArray, List.getElem_cons_succ, List.getElem_cons_zero]))
        (refine wpAnyH_take (i := 1) (oi := _) (v := _) rfl (by decide +kernel) (by decide +kernel) (by decide +kernel) (fun _ _ _ h => h) (Or.inl ⟨by rfl, by (intro w hSw; (try dsimp only at hSw); go_simp; try with_reducible rfl)⟩) (by assumption) ?_; (try simp only [Act.put, List.setIfInBounds_toArray, List.set_cons_zero, List.set_cons_succ, List.getElem_toArray, List.getElem_cons_succ, List.getElem_cons_zero]))
        (refine wpAnyH_take (i := 2) (oi := _) (v := _) rfl (by decide +kernel) (by decide +kernel) (by decide +kernel) (fun _ _ _ h => h) (Or.inl ⟨by rfl, by (intro w hSw; (try dsimp only at hSw); go_simp; try with_reducible rfl)⟩) (by assumption) ?_; (try simp only [Act.put, List.setIfInBounds_toArray, List.set_cons_zero, List.set_cons_succ, List.getElem_toArray, List.getElem_cons_succ, List.getElem_cons_zero]))
        (refine wpAnyH_take (i := 3) (oi := _) (v := _) rfl (by decide +kernel) (by decide +kernel) (by decide +kernel) (fun _ _ _ h => h) (Or.inl ⟨by rfl, by (intro w hSw; (try dsimp only at hSw); go_simp; try with_reducible rfl)⟩) (by assumption) ?_; (try simp only [Act.put, List.setIfInBounds_toArray, List.set_cons_zero, List.set_cons_succ, List.getElem_toArray, List.getElem_cons_succ, List.getElem_cons_zero]))
        (refine wpAnyH_take (i := 4) (oi := _) (v := _) rfl (by decide +kernel) (by decide +kernel) (by decide +kernel) (fun _ _ _ h => h) (Or.inl ⟨by rfl, by (intro w hSw; (try dsimp only at hSw); go_simp; try with_reducible rfl)⟩) (by assumption) ?_; (try simp only [Act.put, List.setIfInBounds_toArray, List.set_cons_zero, List.set_cons_succ, List.getElem_toArray, List.getElem_cons_succ, List.getElem_cons_zero]))
        (refine wpAnyH_take (i := 6) (oi := _) (v := _) rfl (by decide +kernel) (by decide +kernel) (by decide +kernel) (fun _ _ _ h => h) (Or.inl ⟨by rfl, by (intro w hSw; (try dsimp only at hSw); go_simp; try with_reducible rfl)⟩) (by assumption) ?_; (try simp only [Act.put, List.setIfInBounds_toArray, List.set_cons_zero, List.set_cons_succ, List.getElem_toArray, List.getElem_cons_succ, List.getElem_cons_zero]))
        (refine wpAnyH_take (i := 7) (oi := _) (v := _) rfl (by decide +kernel) (by decide +kernel) (by decide +kernel) (fun _ _ _ h => h) (Or.inl ⟨by rfl, by (intro w hSw; (try dsimp only at hSw); go_simp; try with_reducible rfl)⟩) (by assumption) ?_; (try simp only [Act.put, List.setIfInBounds_toArray, List.set_cons_zero, List.set_cons_succ, List.getElem_toArray, List.getElem_cons_succ, List.getElem_cons_zero]))
        (refine wpAnyH_take (i := 8) (oi := _) (v := _) rfl (by decide +kernel) (by decide +kernel) (by decide +kernel) (fun _ _ _ h => h) (Or.inl ⟨by rfl, by (intro w hSw; (try dsimp only at hSw); go_simp; try with_reducible rfl)⟩) (by assumption) ?_; (try simp only [Act.put, List.setIfInBounds_toArray, List.set_cons_zero, List.set_cons_succ, List.getElem_toArray, List.getElem_cons_succ, List.getElem_cons_zero]))
        (refine wpAnyH_take (i := 9) (oi := _) (v := _) rfl (by decide +kernel) (by decide +kernel) (by decide +kernel) (fun _ _ _ h => h) (Or.inl ⟨by rfl, by (intro w hSw; (try dsimp only at hSw); go_simp; try with_reducible rfl)⟩) (by assumption) ?_; (try simp only [Act.put, List.setIfInBounds_toArray, List.set_cons_zero, List.set_cons_succ, List.getElem_toArray, List.getElem_cons_succ, List.getElem_cons_zero]))
        (refine wpAnyH_take (i := 10) (oi := _) (v := _) rfl (by decide +kernel) (by decide +kernel) (by decide +kernel) (fun _ _ _ h => h) (Or.inl ⟨by rfl, by (intro w hSw; (try dsimp only at hSw); go_simp; try with_reducible rfl)⟩) (by assumption) ?_; (try simp only [Act.put, List.setIfInBounds_toArray, List.set_cons_zero, List.set_cons_succ, List.getElem_toArray, List.getElem_cons_succ, List.getElem_cons_zero]))
        refine wpAnyH_ready (rs := [5]) (by decide +kernel) (by simp) ?_
        refine AllReadyH.cons (o := _) rfl (fun K hK => ?_) AllReadyH.nil
        go_simp; go_at_call 44; refine (numbers44 p0 p1 p2 p3 p4 _).mono ?_; rintro e w4 ⟨r1, rn1, rk1, rfl, ho1, hb4⟩; have hb4r : But [] wr w4 := ((But.refl [] wr).drew).trans hb4; go_wp2_with fail
        refine hK.out _ _ (by (try dsimp only); exact ⟨(hb4r).cell h0 (by simp), (hb4r).cell h1 (by simp), (hb4r).cell h2 (by simp), (hb4r).cell h3 (by simp), (hb4r).cell h4 (by simp), (hb4r).cell h5 (by simp), (hb4r).cell h6 (by simp), (hb4r).cell h7 (by simp), (hb4r).cell h8 (by simp), (hb4r).cell h9 (by simp), (hb4r).cell h10 (by simp), (hb4r).cell h11 (by simp)⟩) (fun hNew => ?_); clear hK K; clear hHeld; have hHeld := hNew; clear hNew
        (try simp only [Act.put, List.setIfInBounds_toArray, List.set_cons_zero, List.set_cons_succ, List.getElem_toArray, List.getElem_cons_succ, List.getElem_cons_zero])
        refine wpAnyH_ready (rs := [11]) (by decide +kernel) (by simp) ?_
        refine AllReadyH.cons (o := _) rfl (fun K hK => ?_) AllReadyH.nil
        go_simp; go_at_call 44; refine (numbers44 q0 q1 q2 q3 q4 _).mono ?_; rintro e w5 ⟨r2, rn2, rk2, rfl, ho2, hb5⟩; have hb5r : But [] wr w5 := hb4r.trans hb5; go_wp2_with fail
        refine hK.out _ _ (by (try dsimp only); exact ⟨(hb5r).cell h0 (by simp), (hb5r).cell h1 (by simp), (hb5r).cell h2 (by simp), (hb5r).cell h3 (by simp), (hb5r).cell h4 (by simp), (hb5r).cell h5 (by simp), (hb5r).cell h6 (by simp), (hb5r).cell h7 (by simp), (hb5r).cell h8 (by simp), (hb5r).cell h9 (by simp), (hb5r).cell h10 (by simp), (hb5r).cell h11 (by simp)⟩) (fun hNew => ?_); clear hK K; clear hHeld; have hHeld := hNew; clear hNew
        (try simp only [Act.put, List.setIfInBounds_toArray, List.set_cons_zero, List.set_cons_succ, List.getElem_toArray, List.getElem_cons_succ, List.getElem_cons_zero])
        refine wpAnyH_ready (rs := [12]) (by decide +kernel) (by simp) ?_
        refine AllReadyH.cons (o := _) rfl (fun K hK => ?_) AllReadyH.nil
        go_simp; go_at_call 36; refine (sall_true _ _ _ _ [p0, p1, p2, p3, p4] [q0, q1, q2, q3, q4] HQ.out WP.out WQ.out (by simp) w5 (ho1.keep hb5 (by simp)) ho2).mono ?_; rintro e w6 ⟨rfl, hb6⟩; have hb6r : But [] wr w6 := hb5r.trans hb6; go_wp2_with fail
        refine hK.out _ _ (by (try dsimp only); exact ⟨(hb6r).cell h0 (by simp), (hb6r).cell h1 (by simp), (hb6r).cell h2 (by simp), (hb6r).cell h3 (by simp), (hb6r).cell h4 (by simp), (hb6r).cell h5 (by simp), (hb6r).cell h6 (by simp), (hb6r).cell h7 (by simp), (hb6r).cell h8 (by simp), (hb6r).cell h9 (by simp), (hb6r).cell h10 (by simp), (hb6r).cell h11 (by simp)⟩) (fun hNew => ?_); clear hK K; clear hHeld; have hHeld := hNew; clear hNew
        (try simp only [Act.put, List.setIfInBounds_toArray, List.set_cons_zero, List.set_cons_succ, List.getElem_toArray, List.getElem_cons_succ, List.getElem_cons_zero])
        (refine wpAnyH_take (i := 13) (oi := _) (v := _) rfl (by decide +kernel) (by decide +kernel) (by decide +kernel) (fun _ _ _ h => h) (Or.inl ⟨by rfl, by (intro w hSw; (try dsimp only at hSw); go_simp; try with_reducible rfl)⟩) (by assumption) ?_; (try simp only [Act.put, List.setIfInBounds_toArray, List.set_cons_zero, List.set_cons_succ, List.getElem_toArray, List.getElem_cons_succ, List.getElem_cons_zero]))
        refine wpAnyH_done (by decide +kernel) ?_ _
        refine NoPanic.normal ?_; (try simp only [Exit.then])
        go_wp2_with fail
        exact ⟨⟨k + 1, by omega, by go_num, hbt.trans hb6r⟩, by simp [kOf]; omega⟩
      · go_wp2_with fail
        go_ret
        exact ⟨rfl, u0.trans hbt⟩
end Go.Proofs.YtnghppgpdeghfaaGreatDoor
namespace Go.Proofs.YtnghppgpdeghfaaGreatDoor
open Go.RowKit Go.Proofs.YtnghppgpdeghfaaGreatDoor.Fl Go.Proofs.YtnghppgpdeghfaaGreatDoor.Pt Go.Proofs.YtnghppgpdeghfaaGreatDoor.Tx

/-- Rows but bytes' and builders are as they were. -/
def Oth (w w' : World) : Prop := ∀ (k : Nat) (cs : Array Value) (t : TypeId), w.heap[k]? = some (.cells cs t (0, 0)) → t ≠ 5 → t ≠ 82 → w'.heap[k]? = some (.cells cs t (0, 0))
theorem Oth.refl (w : World) : Oth w w := fun _ _ _ h _ _ => h
theorem Oth.trans {a b c : World} (h : Oth a b) (k : Oth b c) : Oth a c := fun i cs t h1 h2 h3 => k i cs t (h i cs t h1 h2 h3) h2 h3
theorem Oth.of_but {a b : World} (h : But [] a b) : Oth a b := fun i cs t h1 _ _ => h.heap h1 (by simp)
theorem OZ.oth {w w' : World} {B : Nat} {v : Value} {L : List (Nat × Nat)} (h : OZ w B v L) (k : Oth w w') : OZ w' B v L := by
  obtain ⟨hl, h1⟩ := h
  refine ⟨hl, ?_⟩
  rcases h1 with h1 | ⟨g, cap, cur, rfl, hb', hg, r⟩
  · exact .inl h1
  · exact .inr ⟨g, cap, cur, rfl, hb', k _ _ _ hg (by decide) (by decide), r⟩
theorem cc_full (B b : Nat) (bs : List Value) (w : World) (h : Lib.IsBuilder 82 5 B b bs w) :
    Calls Tryz.prog 60 #[.pointer (some ⟨b, 0, none⟩)] w fun e w' => e = .returned (.tuple #[]) ∧ (Lib.BuilderAt 82 5 B b (.pointer (some ⟨b, 0, none⟩)) bs w' ∧ Below B w w' ∧ Oth w w') := by
  rcases h with h | h
  · refine (cc_fresh b w h.cell0 h.shape h.frozen0).mono ?_
    rintro e w' ⟨rfl, rfl⟩
    obtain ⟨h1, v, h2, h3⟩ := id h
    exact ⟨rfl, h.used _, (Below.refl B w).setCell (p := ⟨b, 0, none⟩) h.1 _, fun k cs t hk _ h82 => (Below.heap_setCell w ⟨b, 0, none⟩ _ k (fun (e : k = b) => by subst e; rw [h2] at hk; injection hk with hk; injection hk with _ hk; exact h82 hk.symm)).trans hk⟩
  · refine (cc_used b w h.cell0).mono ?_
    rintro e w' ⟨rfl, rfl⟩
    exact ⟨rfl, h, Below.refl B _, Oth.refl _⟩
set_option maxHeartbeats 1000000 in
set_option maxRecDepth 100000 in
theorem wrs_full (B b : Nat) (bs : List Value) (s : ByteArray) (w : World) (h : Lib.IsBuilder 82 5 B b bs w) (hlen : bs.length + s.size ≤ 140737488355328) (hBw : B ≤ w.heap.size) :
    Calls Tryz.prog 39 #[.pointer (some ⟨b, 0, none⟩), .string s] w fun e w' => e = .returned (.tuple #[.int .i64 s.size, .nilIface]) ∧ (Lib.BuilderAt 82 5 B b (.pointer (some ⟨b, 0, none⟩)) (bs ++ Lib.strCells s) w' ∧ Below B w w' ∧ Oth w w') := by
  obtain ⟨i0, hi, hz0, hz1, hz2⟩ := info_parts Tryz.Builder_Extra_169.infoByte
  go_enter Tryz.func39, Tryz.ntmps39
  go_wp2_with (go_at_call 60; refine (cc_full B b bs _ h).mono ?_)
  rintro e w1 ⟨rfl, h1, hb1, ho1⟩
  obtain ⟨hB, v, hbk, hown, hne⟩ := h1
  have c0 : w1.cell? ⟨b, 0, none⟩ = some (.pointer (some ⟨b, 0, none⟩)) := by rw [Lib.cell_of_heap hbk]; rfl
  have c1 : w1.cell? ⟨b, 1, none⟩ = some v := by rw [Lib.cell_of_heap hbk]; rfl
  go_wp2_with (at_builtin; refine Lib.wpList_append_own_string _ rfl _ _ 32 9 rfl B 5 i0 Tryz.underlying32 Tryz.underlying9 hi hz0 hz1 hz2 _ _ _ rfl hown s rfl ?c3 ?c4 ?c5 ?_)
  case c3 => unfold maxLen; omega
  case c4 => omega
  case c5 => have := hb1.size; omega
  intro v' w2 hown' hgrow _
  have hlt : b < w1.heap.size := by
    rcases Nat.lt_or_ge b w1.heap.size with h' | h'
    · exact h'
    · simp [Array.getElem?_eq_none h'] at hbk
  have hb2 : w2.heap[b]? = some (.cells #[.pointer (some ⟨b, 0, none⟩), v] 82 (0, 0)) := by
    rw [hgrow.block b hlt (fun e => hne e.symm)]
    exact hbk
  have d0 : w2.cell? ⟨b, 0, none⟩ = some (.pointer (some ⟨b, 0, none⟩)) := by rw [Lib.cell_of_heap hb2]; rfl
  have d1 : w2.cell? ⟨b, 1, none⟩ = some v := by rw [Lib.cell_of_heap hb2]; rfl
  have f1 : w2.frozen? ⟨b, 1, none⟩ = false := Lib.frozen_of_heap hb2 1
  obtain ⟨ao, n', cap, rfl⟩ : ∃ ao n' cap, v' = .slice ao n' cap := by
    rcases hown'.2 with ⟨hv, _⟩ | ⟨g, cap, cur, hv, _⟩
    · exact ⟨_, _, _, hv⟩
    · exact ⟨_, _, _, hv⟩
  go_wp2
  go_ret2
  refine ⟨rfl, ?_, ?_, ?_⟩
  · exact Lib.BuilderAt.put (T := 82) (e := 5) hB hb2 (bs' := bs ++ Lib.strCells s) (by simpa [Lib.strCells_length] using hown') Tryz.Builder_Extra_169.neB5
  · exact (hb1.grown hgrow (by have := hb1.size; omega) (fun k hk => (hown.lt k hk).1)).setCell (p := ⟨b, 1, none⟩) hB _
  · intro k cs t hk h5 h82
    have hk1 := ho1 k cs t hk h5 h82
    have hkl := (Array.getElem?_eq_some_iff.1 hk1).1
    have hk2 : w2.heap[k]? = some (.cells cs t (0, 0)) := by
      rw [hgrow.block k hkl (fun e => ?_)]
      · exact hk1
      · rcases hown.2 with ⟨hv, _⟩ | ⟨g, cap, cur, hv, _, hg, _⟩
        · rw [hv] at e; cases e
        · rw [hv] at e
          have e2 : some k = some g := e
          cases e2
          rw [hg] at hk1; injection hk1 with hk1; injection hk1 with _ hk1; exact h5 hk1.symm
    refine (Below.heap_setCell w2 ⟨b, 1, none⟩ _ k (fun (e : k = b) => ?_)).trans hk2
    subst e; rw [hb2] at hk2; injection hk2 with hk2; injection hk2 with _ hk2; exact h82 hk2.symm
set_option linter.unusedSimpArgs false in
set_option maxRecDepth 100000 in
set_option maxHeartbeats 4000000 in
theorem list_full (B b : Nat) (L0 : List UInt8) (v : Value) (B1 : Nat) (l : List (Nat × Nat)) (hl : ∀ p ∈ l, Wf p) (hlen : (L0 ++ lsT l).length ≤ 65536) (h63 : l.length ≤ 1000) (hne : ¬ l.length = 0) (w : World) (hg : Gl w) (hB : 15 ≤ B) (hBw : B ≤ w.heap.size) (hb : Lib.IsBuilder 82 5 B b (Lib.byteCells L0) w) (h1 : OZ w B1 v l) :
    Calls Tryz.prog 40 #[.pointer (some ⟨b, 0, none⟩), v] w fun e w' => e = .returned (.tuple #[]) ∧ Lib.IsBuilder 82 5 B b (Lib.byteCells (L0 ++ lsT l)) w' ∧ Below B w w' ∧ Oth w w' := by
  obtain ⟨g1, c1, rfl, hc1, ha⟩ := h1.someF hne
  have HL := Lib.hid hl
  have HA := Lib.hid (show ∀ (w' : World), Oth w w' → ∀ (j : Nat) (b : Nat × Nat), l[j]? = some b → w'.cell? ⟨g1, j, none⟩ = some (.complex .f64 b.1 b.2) from fun w' ho j b hj => by
    obtain ⟨g, cap, e, _, hc⟩ := (h1.oth ho).someF hne
    injection e with e _ _; injection e with e; injection e with e
    rw [e]; exact hc j b hj)
  have HB := Lib.hid hb
  have HLEN := Lib.hid hlen
  obtain ⟨n, hnn⟩ : ∃ n, n = l.length := ⟨_, rfl⟩
  rw [← hnn] at hne h63 ⊢
  have HNN := Lib.hid hnn
  have HG := hg
  clear h1 hl ha hnn hc1 hb hlen hg
  go_enter Tryz.func40, Tryz.ntmps40
  go_wp2_with fail
  go_loopw [8] (fun i wr => ∃ k : Nat, k ≤ n ∧ i = .int .i64 k ∧ Hid (Lib.IsBuilder 82 5 B b (Lib.byteCells (L0 ++ lsT (l.take k))) wr) ∧ Below B w wr ∧ Hid (Oth w wr)) (fun i _ => n - kOf i)
  case atStart => exact ⟨0, Nat.zero_le _, rfl, Lib.hid (by simpa [lsT] using HB.out), Below.refl _ _, Lib.hid (Oth.refl _)⟩
  case round =>
    obtain ⟨k, hk, rfl, HI, hbt, HO⟩ := hrel
    by_cases hlt : k < n
    · have hx0 := List.getElem?_eq_getElem (l := l) (i := k) (by have := HNN.out; omega)
      obtain ⟨⟨x, x2⟩, hxv⟩ : ∃ p, l[k]? = some p := ⟨_, hx0⟩
      have wx := HL.out _ (List.mem_of_getElem? hxv)
      have hx := HA.out wr HO.out k _ hxv
      have WX := Lib.hid wx
      have HXV := Lib.hid hxv
      have t1 : (k : Int) < n := by omega
      have hgr := HG.low hbt hB
      have ln := num_len wx.1 wx.2
      have en : (str (num x x2)).size = (num x x2).length := rfl
      have hs := hbt.size
      clear hx0 hxv wx
      simp only at hx ln
      have hle : (Lib.byteCells (L0 ++ lsT (l.take k))).length + 200 ≤ 140737488355328 := by
        rw [Lib.byteCells_length, List.length_append]
        have h1 := lsT_take_le l k
        have h2 := HLEN.out
        rw [List.length_append] at h2
        omega
      have hsz2 : (({ data := #[32] } : ByteArray) ++ str (num x x2)).size ≤ 200 := by rw [ByteArray.size_append, en]; show 1 + _ ≤ 200; omega
      go_wp2_with (first | (go_at_call 11; refine (write_any x x2 WX.out.1 WX.out.2 _ hgr).mono ?_; rintro e w1 ⟨rfl, hb1⟩; have hs1 := hb1.size) | (go_at_call 39; refine (wrs_full B b _ _ w1 (bld_keep HI.out hb1) (by omega) (by omega)).mono ?_; rintro e w2 ⟨rfl, hbu, hb2, ho2⟩))
      all_goals first | (exfalso; omega) | skip
      refine ⟨⟨k + 1, by omega, by go_num, Lib.hid (.inr ?_), (hbt.trans (below_of_but hb1 (by omega))).trans hb2, Lib.hid ((HO.out.trans (Oth.of_but hb1)).trans ho2)⟩, by simp [kOf]; omega⟩
      rw [lsT_take l k _ HXV.out]
      have e : Lib.byteCells (L0 ++ (lsT (l.take k) ++ (32 :: num x x2))) = Lib.byteCells (L0 ++ lsT (l.take k)) ++ Lib.byteCells (32 :: num x x2) := by simp [Lib.byteCells]
      rw [e]
      exact hbu
    · have hkn : k = n := by omega
      subst hkn
      go_wp2_with fail
      go_end0
      refine ⟨rfl, ?_, hbt, HO.out⟩
      have h2 := HI.out
      rw [HNN.out, List.take_length] at h2
      exact h2
end Go.Proofs.YtnghppgpdeghfaaGreatDoor
