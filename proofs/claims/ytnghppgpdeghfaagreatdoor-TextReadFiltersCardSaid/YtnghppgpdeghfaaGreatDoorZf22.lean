/- The reference's DocReadZpk. -/
import Derived.Test.YtnghppgpdeghfaaGreatDoorZf21
namespace Go.Proofs.YtnghppgpdeghfaaGreatDoor
open Go.RowKit Go.Proofs.YtnghppgpdeghfaaGreatDoor.Fl Go.Proofs.YtnghppgpdeghfaaGreatDoor.Pt Go.Proofs.YtnghppgpdeghfaaGreatDoor.Tx

theorem err_eq {f : Nat} (h : f = 12 ∨ f = 2 ∨ f = 5) : ((f : Int) == 0) = false := by rcases h with rfl | rfl | rfl <;> rfl
set_option linter.unusedSimpArgs false in
set_option maxRecDepth 100000 in
set_option maxHeartbeats 2000000 in
theorem docz_long (s : ByteArray) (hs : 65536 < s.size) (W : World) : Calls Tryz.prog 14 #[.string s] W fun e w' => e = ZpE 0 2 ∧ But [] W w' := by
  have t1 : decide ((s.size : Int) > 65536) = true := by simp; omega
  go_enter Tryz.func14, Tryz.ntmps14
  go_wp2_with fail
  obtain ⟨U, hU⟩ : ∃ U, U = W.alloc (.cells #[.slice none 0 0, .slice none 0 0, .complex .f64 0 0] 35) := ⟨_, rfl⟩
  have u0 : But [] W U := hU ▸ (But.refl [] W).alloc _
  have uA : U.heap[W.heap.size]? = some (.cells #[.slice none 0 0, .slice none 0 0, .complex .f64 0 0] 35 (0, 0)) := by rw [hU]; show (W.heap.push _)[_]? = _; exact Array.getElem?_push_size
  refine bodyPost_ret (v := .tuple #[.agg #[.slice none 0 0, .slice none 0 0, .complex .f64 0 0], .int .i64 0, .int .i64 2]) ?_ rfl ⟨rfl, (But.refl [] W).alloc _⟩
  rw [results_cell_tmp2 (fn := Tryz.f14) rfl]
  simp only [List.getElem_toArray, Array.getD]
  simp [asAddr, Sem.run_pure, Result.andThen]
  rw [← hU, run_loadVar_row _ W.heap.size 35 35 _ _ _ uA Tryz.underlying35 rfl (by kernel_rfl)]
set_option linter.unusedSimpArgs false in
set_option maxRecDepth 100000 in
set_option maxHeartbeats 2000000 in
theorem docz_0 (s : ByteArray) (hs : s.size ≤ 65536) (W : World) (b : Nat)  (kf : tk s.data.toList zpkT 0 = (false, b)) : Calls Tryz.prog 14 #[.string s] W fun e w' => e = ZpE b 12 ∧ But [] W w' := by
  have t1 : decide ((s.size : Int) > 65536) = false := by simp; omega
  obtain ⟨U, hU⟩ : ∃ U, U = (W.alloc (.cells #[.slice none 0 0, .slice none 0 0, .complex .f64 0 0] 35)).alloc (.cells #[.string s, .int .i64 0, .int .i64 0, .int .i64 0] 60) := ⟨_, rfl⟩
  have u0 : But [] W U := hU ▸ ((But.refl [] W).alloc _).alloc _
  have uS : U.heap.size = W.heap.size + 2 := by rw [hU]; simp
  have uA : U.heap[W.heap.size]? = some (.cells #[.slice none 0 0, .slice none 0 0, .complex .f64 0 0] 35 (0, 0)) := by rw [hU]; exact a2_0 _ _ _
  have uQ : Rr U (W.heap.size + 1) s 0 0 0 := by rw [hU]; exact a2_1 _ _ _
  have KF := Lib.hid kf
  clear kf
  unfold zpkT at KF
  go_enter Tryz.func14, Tryz.ntmps14
  have tok : True := trivial
  go_wp2_with (go_at_call 34; rw [← hU]; have _t := tok; clear tok; refine (wt_no (w0 := U) [122, 112, 107, 32] (by decide) hs (Nat.zero_le _) uQ (But.refl _ _) KF.out).mono ?_; rintro e w1 ⟨rfl, hr1, hb1⟩)
  have tok : True := trivial
  go_wp2_with (go_at_call 23; have _t := tok; clear tok; refine (nt_o rfl rfl hr1 hb1).mono ?_; rintro e w2 ⟨rfl, hr2, hb2⟩)
  have tok : True := trivial
  go_wp2_with (go_at_call 34; obtain ⟨U2, hU2⟩ : ∃ U2, U2 = w2.alloc (.cells #[.slice none 0 0, .slice none 0 0, .complex .f64 0 0] 35) := ⟨_, rfl⟩; have v0 : But [] w2 U2 := hU2 ▸ (But.refl [] w2).alloc _; have v2 : U2.heap[w2.heap.size]? = some (.cells #[.slice none 0 0, .slice none 0 0, .complex .f64 0 0] 35 (0, 0)) := (by rw [hU2]; show (w2.heap.push _)[_]? = _; exact Array.getElem?_push_size); have hr2u := hr2.keep v0 (by simp); have hs2 := hb2.size; rw [← hU2]; have _t := tok; clear tok; refine (wt_g rfl [32, 124] (by decide) hr2u (But.refl _ U2)).mono ?_; rintro e w3 ⟨rfl, hr3, hb3⟩)
  have tok : True := trivial
  go_wp2_with (go_at_call 35; have _t := tok; clear tok; refine (al_g_true rfl hr3 hb3).mono ?_; rintro e w4 ⟨rfl, hr4, hb4⟩; have bF4 := hb4.heap v2 (by simp; omega); have cF4 : w4.cell? ⟨w2.heap.size, 0, none⟩ = some (.slice none 0 0) := (by rw [cell_of_row w4 _ 0 _ _ _ bF4]; rfl); have fF4 : w4.frozen? ⟨w2.heap.size, 0, none⟩ = false := blk_free bF4; have bG4 : (w4.setCell ⟨w2.heap.size, 0, none⟩ (.slice none 0 0)).heap[w2.heap.size]? = some (.cells #[.slice none 0 0, .slice none 0 0, .complex .f64 0 0] 35 (0, 0)) := blk_set _ _ _ _ _ _ bF4; have hr4s : Rr (w4.setCell ⟨w2.heap.size, 0, none⟩ (.slice none 0 0)) (W.heap.size + 1) s b 12 b := (Below.heap_setCell w4 ⟨w2.heap.size, 0, none⟩ (.slice none 0 0) (W.heap.size + 1) (by simp; omega)).trans hr4)
  have tok : True := trivial
  go_wp2_with (go_at_call 35; have hb4s := (hb4.weak (qs' := [W.heap.size + 1, w2.heap.size]) (by simp; omega)).setCell ⟨w2.heap.size, 0, none⟩ (.slice none 0 0) (.inl (by simp)); have hs4 := hb4s.size; have _t := tok; clear tok; refine (al_g_false rfl hr4s (But.refl _ _)).mono ?_; rintro e w5 ⟨rfl, hr5, hb5⟩; have bF5 := hb5.heap bG4 (by simp; omega); have cF5 : w5.cell? ⟨w2.heap.size, 1, none⟩ = some (.slice none 0 0) := (by rw [cell_of_row w5 _ 1 _ _ _ bF5]; rfl); have fF5 : w5.frozen? ⟨w2.heap.size, 1, none⟩ = false := blk_free bF5; have bG5 : (w5.setCell ⟨w2.heap.size, 1, none⟩ (.slice none 0 0)).heap[w2.heap.size]? = some (.cells #[.slice none 0 0, .slice none 0 0, .complex .f64 0 0] 35 (0, 0)) := blk_set _ _ _ _ _ _ bF5; have hr5s : Rr (w5.setCell ⟨w2.heap.size, 1, none⟩ (.slice none 0 0)) (W.heap.size + 1) s b 12 b := (Below.heap_setCell w5 ⟨w2.heap.size, 1, none⟩ (.slice none 0 0) (W.heap.size + 1) (by simp; omega)).trans hr5)
  have tok : True := trivial
  go_wp2_with (go_at_call 24; have _t := tok; clear tok; refine (rend_off _ _ _ 12 rfl s _ hr5s).mono ?_; rintro e w6 ⟨rfl, hb6⟩; have hb5s := (hb5.weak (qs' := [W.heap.size + 1, w2.heap.size]) (by simp; omega)).setCell ⟨w2.heap.size, 1, none⟩ (.slice none 0 0) (.inl (by simp)); have hbU2 := (hb4s.trans hb5s).trans (hb6.weak (by simp)); have hb2w := hb2.weak (qs' := [W.heap.size + 1, w2.heap.size]) (by simp; omega); have v0w : But [W.heap.size + 1, w2.heap.size] w2 U2 := v0.weak (by simp); have hUall := hb2w.trans (v0w.trans hbU2); have bF6 := hb6.heap bG5 (by simp); have zR := hUall.heap uA (by simp; omega); have z0 : w6.cell? ⟨W.heap.size, 0, none⟩ = some (.slice none 0 0) := (by rw [cell_of_row w6 _ 0 _ _ _ zR]; rfl); have z1 : w6.cell? ⟨W.heap.size, 1, none⟩ = some (.slice none 0 0) := (by rw [cell_of_row w6 _ 1 _ _ _ zR]; rfl); have z2 : w6.cell? ⟨W.heap.size, 2, none⟩ = some (.complex .f64 0 0) := (by rw [cell_of_row w6 _ 2 _ _ _ zR]; rfl); have g0 : (w6).frozen? ⟨W.heap.size, 0, none⟩ = false := blk_free zR; have s0 := blk_set (w6) W.heap.size 0 _ 35 (.slice none 0 0) zR; have g1 : ((w6).setCell ⟨W.heap.size, 0, none⟩ (.slice none 0 0)).frozen? ⟨W.heap.size, 1, none⟩ = false := blk_free s0; have s1 := blk_set ((w6).setCell ⟨W.heap.size, 0, none⟩ (.slice none 0 0)) W.heap.size 1 _ 35 (.slice none 0 0) s0; have g2 : (((w6).setCell ⟨W.heap.size, 0, none⟩ (.slice none 0 0)).setCell ⟨W.heap.size, 1, none⟩ (.slice none 0 0)).frozen? ⟨W.heap.size, 2, none⟩ = false := blk_free s1; have s2 := blk_set (((w6).setCell ⟨W.heap.size, 0, none⟩ (.slice none 0 0)).setCell ⟨W.heap.size, 1, none⟩ (.slice none 0 0)) W.heap.size 2 _ 35 (.complex .f64 0 0) s1)
  refine bodyPost_ret (v := .tuple #[.agg #[.slice none 0 0, .slice none 0 0, .complex .f64 0 0], .int .i64 ((b : Nat) : Int), .int .i64 ((12 : Nat) : Int)]) ?_ rfl ?_
  · rw [results_cell_tmp2 (fn := Tryz.f14) rfl]
    simp only [List.getElem_toArray, Array.getD]
    simp [asAddr, Sem.run_pure, Result.andThen]
    rw [run_loadVar_row _ W.heap.size 35 35 _ _ _ s2 Tryz.underlying35 rfl (by kernel_rfl)]
    rfl
  · have hB1 := (((But.refl [W.heap.size] w6).setCell ⟨W.heap.size, 0, none⟩ (.slice none 0 0) (.inl (by simp))).setCell ⟨W.heap.size, 1, none⟩ (.slice none 0 0) (.inl (by simp))).setCell ⟨W.heap.size, 2, none⟩ (.complex .f64 0 0) (.inl (by simp))
    have hBW := u0.then (qs := []) ((hUall.weak (qs' := [W.heap.size, W.heap.size + 1, w2.heap.size]) (by simp; omega)).trans (hB1.weak (by simp; omega))) (by simp; omega)
    exact ⟨rfl, hBW⟩
set_option linter.unusedSimpArgs false in
set_option maxRecDepth 100000 in
set_option maxHeartbeats 2000000 in
theorem docz_1 (s : ByteArray) (hs : s.size ≤ 65536) (W : World) (b : Nat) (k1 : tk s.data.toList zpkT 0 = (true, b)) (p f : Nat) (hf0 : ((f : Int) == 0) = false) (hf1 : ((f : Int) != 0) = true) (kf : ((nu s.data.toList b = (false, p) ∧ f = 12) ∨ ∃ c, nu s.data.toList b = (true, c) ∧ (¬ FiN s.data.toList b c) ∧ f = 5 ∧ p = b)) : Calls Tryz.prog 14 #[.string s] W fun e w' => e = ZpE p f ∧ But [] W w' := by
  have t1 : decide ((s.size : Int) > 65536) = false := by simp; omega
  obtain ⟨U, hU⟩ : ∃ U, U = (W.alloc (.cells #[.slice none 0 0, .slice none 0 0, .complex .f64 0 0] 35)).alloc (.cells #[.string s, .int .i64 0, .int .i64 0, .int .i64 0] 60) := ⟨_, rfl⟩
  have u0 : But [] W U := hU ▸ ((But.refl [] W).alloc _).alloc _
  have uS : U.heap.size = W.heap.size + 2 := by rw [hU]; simp
  have uA : U.heap[W.heap.size]? = some (.cells #[.slice none 0 0, .slice none 0 0, .complex .f64 0 0] 35 (0, 0)) := by rw [hU]; exact a2_0 _ _ _
  have uQ : Rr U (W.heap.size + 1) s 0 0 0 := by rw [hU]; exact a2_1 _ _ _
  have l1 : b ≤ s.size := by have := tk_le k1 (Nat.zero_le _); simpa using this
  have K1 := Lib.hid k1
  have KF := Lib.hid kf
  clear k1 kf
  unfold zpkT at K1
  go_enter Tryz.func14, Tryz.ntmps14
  have tok : True := trivial
  go_wp2_with (go_at_call 34; rw [← hU]; have _t := tok; clear tok; refine (wt_ok (w0 := U) [122, 112, 107, 32] (by decide) hs (Nat.zero_le _) uQ (But.refl _ _) K1.out).mono ?_; rintro e w1 ⟨rfl, hr1, hb1⟩)
  have tok : True := trivial
  go_wp2_with (go_at_call 23; have _t := tok; clear tok; refine (nt_bad hs l1 hr1 hb1 KF.out).mono ?_; rintro e w2 ⟨x, y, dd, rfl, hr2, hb2⟩)
  have tok : True := trivial
  go_wp2_with (go_at_call 34; obtain ⟨U2, hU2⟩ : ∃ U2, U2 = w2.alloc (.cells #[.slice none 0 0, .slice none 0 0, .complex .f64 x y] 35) := ⟨_, rfl⟩; have v0 : But [] w2 U2 := hU2 ▸ (But.refl [] w2).alloc _; have v2 : U2.heap[w2.heap.size]? = some (.cells #[.slice none 0 0, .slice none 0 0, .complex .f64 x y] 35 (0, 0)) := (by rw [hU2]; show (w2.heap.push _)[_]? = _; exact Array.getElem?_push_size); have hr2u := hr2.keep v0 (by simp); have hs2 := hb2.size; rw [← hU2]; have _t := tok; clear tok; refine (wt_g hf0 [32, 124] (by decide) hr2u (But.refl _ U2)).mono ?_; rintro e w3 ⟨rfl, hr3, hb3⟩)
  have tok : True := trivial
  go_wp2_with (go_at_call 35; have _t := tok; clear tok; refine (al_g_true hf0 hr3 hb3).mono ?_; rintro e w4 ⟨rfl, hr4, hb4⟩; have bF4 := hb4.heap v2 (by simp; omega); have cF4 : w4.cell? ⟨w2.heap.size, 0, none⟩ = some (.slice none 0 0) := (by rw [cell_of_row w4 _ 0 _ _ _ bF4]; rfl); have fF4 : w4.frozen? ⟨w2.heap.size, 0, none⟩ = false := blk_free bF4; have bG4 : (w4.setCell ⟨w2.heap.size, 0, none⟩ (.slice none 0 0)).heap[w2.heap.size]? = some (.cells #[.slice none 0 0, .slice none 0 0, .complex .f64 x y] 35 (0, 0)) := blk_set _ _ _ _ _ _ bF4; have hr4s : Rr (w4.setCell ⟨w2.heap.size, 0, none⟩ (.slice none 0 0)) (W.heap.size + 1) s dd f p := (Below.heap_setCell w4 ⟨w2.heap.size, 0, none⟩ (.slice none 0 0) (W.heap.size + 1) (by simp; omega)).trans hr4)
  have tok : True := trivial
  go_wp2_with (go_at_call 35; have hb4s := (hb4.weak (qs' := [W.heap.size + 1, w2.heap.size]) (by simp; omega)).setCell ⟨w2.heap.size, 0, none⟩ (.slice none 0 0) (.inl (by simp)); have hs4 := hb4s.size; have _t := tok; clear tok; refine (al_g_false hf0 hr4s (But.refl _ _)).mono ?_; rintro e w5 ⟨rfl, hr5, hb5⟩; have bF5 := hb5.heap bG4 (by simp; omega); have cF5 : w5.cell? ⟨w2.heap.size, 1, none⟩ = some (.slice none 0 0) := (by rw [cell_of_row w5 _ 1 _ _ _ bF5]; rfl); have fF5 : w5.frozen? ⟨w2.heap.size, 1, none⟩ = false := blk_free bF5; have bG5 : (w5.setCell ⟨w2.heap.size, 1, none⟩ (.slice none 0 0)).heap[w2.heap.size]? = some (.cells #[.slice none 0 0, .slice none 0 0, .complex .f64 x y] 35 (0, 0)) := blk_set _ _ _ _ _ _ bF5; have hr5s : Rr (w5.setCell ⟨w2.heap.size, 1, none⟩ (.slice none 0 0)) (W.heap.size + 1) s dd f p := (Below.heap_setCell w5 ⟨w2.heap.size, 1, none⟩ (.slice none 0 0) (W.heap.size + 1) (by simp; omega)).trans hr5)
  have tok : True := trivial
  go_wp2_with (go_at_call 24; have _t := tok; clear tok; refine (rend_off _ _ _ f hf0 s _ hr5s).mono ?_; rintro e w6 ⟨rfl, hb6⟩; have hb5s := (hb5.weak (qs' := [W.heap.size + 1, w2.heap.size]) (by simp; omega)).setCell ⟨w2.heap.size, 1, none⟩ (.slice none 0 0) (.inl (by simp)); have hbU2 := (hb4s.trans hb5s).trans (hb6.weak (by simp)); have hb2w := hb2.weak (qs' := [W.heap.size + 1, w2.heap.size]) (by simp; omega); have v0w : But [W.heap.size + 1, w2.heap.size] w2 U2 := v0.weak (by simp); have hUall := hb2w.trans (v0w.trans hbU2); have bF6 := hb6.heap bG5 (by simp); have zR := hUall.heap uA (by simp; omega); have z0 : w6.cell? ⟨W.heap.size, 0, none⟩ = some (.slice none 0 0) := (by rw [cell_of_row w6 _ 0 _ _ _ zR]; rfl); have z1 : w6.cell? ⟨W.heap.size, 1, none⟩ = some (.slice none 0 0) := (by rw [cell_of_row w6 _ 1 _ _ _ zR]; rfl); have z2 : w6.cell? ⟨W.heap.size, 2, none⟩ = some (.complex .f64 0 0) := (by rw [cell_of_row w6 _ 2 _ _ _ zR]; rfl); have g0 : (w6).frozen? ⟨W.heap.size, 0, none⟩ = false := blk_free zR; have s0 := blk_set (w6) W.heap.size 0 _ 35 (.slice none 0 0) zR; have g1 : ((w6).setCell ⟨W.heap.size, 0, none⟩ (.slice none 0 0)).frozen? ⟨W.heap.size, 1, none⟩ = false := blk_free s0; have s1 := blk_set ((w6).setCell ⟨W.heap.size, 0, none⟩ (.slice none 0 0)) W.heap.size 1 _ 35 (.slice none 0 0) s0; have g2 : (((w6).setCell ⟨W.heap.size, 0, none⟩ (.slice none 0 0)).setCell ⟨W.heap.size, 1, none⟩ (.slice none 0 0)).frozen? ⟨W.heap.size, 2, none⟩ = false := blk_free s1; have s2 := blk_set (((w6).setCell ⟨W.heap.size, 0, none⟩ (.slice none 0 0)).setCell ⟨W.heap.size, 1, none⟩ (.slice none 0 0)) W.heap.size 2 _ 35 (.complex .f64 0 0) s1)
  refine bodyPost_ret (v := .tuple #[.agg #[.slice none 0 0, .slice none 0 0, .complex .f64 0 0], .int .i64 ((p : Nat) : Int), .int .i64 ((f : Nat) : Int)]) ?_ rfl ?_
  · rw [results_cell_tmp2 (fn := Tryz.f14) rfl]
    simp only [List.getElem_toArray, Array.getD]
    simp [asAddr, Sem.run_pure, Result.andThen]
    rw [run_loadVar_row _ W.heap.size 35 35 _ _ _ s2 Tryz.underlying35 rfl (by kernel_rfl)]
    rfl
  · have hB1 := (((But.refl [W.heap.size] w6).setCell ⟨W.heap.size, 0, none⟩ (.slice none 0 0) (.inl (by simp))).setCell ⟨W.heap.size, 1, none⟩ (.slice none 0 0) (.inl (by simp))).setCell ⟨W.heap.size, 2, none⟩ (.complex .f64 0 0) (.inl (by simp))
    have hBW := u0.then (qs := []) ((hUall.weak (qs' := [W.heap.size, W.heap.size + 1, w2.heap.size]) (by simp; omega)).trans (hB1.weak (by simp; omega))) (by simp; omega)
    exact ⟨rfl, hBW⟩
set_option linter.unusedSimpArgs false in
set_option maxRecDepth 100000 in
set_option maxHeartbeats 2000000 in
theorem docz_2 (s : ByteArray) (hs : s.size ≤ 65536) (W : World) (b c d : Nat) (k1 : tk s.data.toList zpkT 0 = (true, b)) (k2 : nu s.data.toList b = (true, c)) (k3 : FiN s.data.toList b c) (kf : tk s.data.toList barT c = (false, d)) : Calls Tryz.prog 14 #[.string s] W fun e w' => e = ZpE d 12 ∧ But [] W w' := by
  have t1 : decide ((s.size : Int) > 65536) = false := by simp; omega
  obtain ⟨U, hU⟩ : ∃ U, U = (W.alloc (.cells #[.slice none 0 0, .slice none 0 0, .complex .f64 0 0] 35)).alloc (.cells #[.string s, .int .i64 0, .int .i64 0, .int .i64 0] 60) := ⟨_, rfl⟩
  have u0 : But [] W U := hU ▸ ((But.refl [] W).alloc _).alloc _
  have uS : U.heap.size = W.heap.size + 2 := by rw [hU]; simp
  have uA : U.heap[W.heap.size]? = some (.cells #[.slice none 0 0, .slice none 0 0, .complex .f64 0 0] 35 (0, 0)) := by rw [hU]; exact a2_0 _ _ _
  have uQ : Rr U (W.heap.size + 1) s 0 0 0 := by rw [hU]; exact a2_1 _ _ _
  have l1 : b ≤ s.size := by have := tk_le k1 (Nat.zero_le _); simpa using this
  have l2 : c ≤ s.size := by have := nu_le k2 (by simpa using l1); simpa using this
  have K1 := Lib.hid k1
  have K2 := Lib.hid k2
  have K3 := Lib.hid k3
  have KF := Lib.hid kf
  clear k1 k2 k3 kf
  unfold zpkT at K1
  unfold barT at KF
  go_enter Tryz.func14, Tryz.ntmps14
  have tok : True := trivial
  go_wp2_with (go_at_call 34; rw [← hU]; have _t := tok; clear tok; refine (wt_ok (w0 := U) [122, 112, 107, 32] (by decide) hs (Nat.zero_le _) uQ (But.refl _ _) K1.out).mono ?_; rintro e w1 ⟨rfl, hr1, hb1⟩)
  have tok : True := trivial
  go_wp2_with (go_at_call 23; have _t := tok; clear tok; refine (nt_c hs l1 hr1 hb1 K2.out K3.out).mono ?_; rintro e w2 ⟨x, y, rfl, hxy, hr2, hb2⟩; have HXY := Lib.hid hxy; clear hxy)
  have tok : True := trivial
  go_wp2_with (go_at_call 34; obtain ⟨U2, hU2⟩ : ∃ U2, U2 = w2.alloc (.cells #[.slice none 0 0, .slice none 0 0, .complex .f64 x y] 35) := ⟨_, rfl⟩; have v0 : But [] w2 U2 := hU2 ▸ (But.refl [] w2).alloc _; have v2 : U2.heap[w2.heap.size]? = some (.cells #[.slice none 0 0, .slice none 0 0, .complex .f64 x y] 35 (0, 0)) := (by rw [hU2]; show (w2.heap.push _)[_]? = _; exact Array.getElem?_push_size); have hr2u := hr2.keep v0 (by simp); have hs2 := hb2.size; rw [← hU2]; have _t := tok; clear tok; refine (wt_no [32, 124] (by decide) hs l2 hr2u (But.refl _ U2) KF.out).mono ?_; rintro e w3 ⟨rfl, hr3, hb3⟩)
  have tok : True := trivial
  go_wp2_with (go_at_call 35; have _t := tok; clear tok; refine (al_g_true rfl hr3 hb3).mono ?_; rintro e w4 ⟨rfl, hr4, hb4⟩; have bF4 := hb4.heap v2 (by simp; omega); have cF4 : w4.cell? ⟨w2.heap.size, 0, none⟩ = some (.slice none 0 0) := (by rw [cell_of_row w4 _ 0 _ _ _ bF4]; rfl); have fF4 : w4.frozen? ⟨w2.heap.size, 0, none⟩ = false := blk_free bF4; have bG4 : (w4.setCell ⟨w2.heap.size, 0, none⟩ (.slice none 0 0)).heap[w2.heap.size]? = some (.cells #[.slice none 0 0, .slice none 0 0, .complex .f64 x y] 35 (0, 0)) := blk_set _ _ _ _ _ _ bF4; have hr4s : Rr (w4.setCell ⟨w2.heap.size, 0, none⟩ (.slice none 0 0)) (W.heap.size + 1) s d 12 d := (Below.heap_setCell w4 ⟨w2.heap.size, 0, none⟩ (.slice none 0 0) (W.heap.size + 1) (by simp; omega)).trans hr4)
  have tok : True := trivial
  go_wp2_with (go_at_call 35; have hb4s := (hb4.weak (qs' := [W.heap.size + 1, w2.heap.size]) (by simp; omega)).setCell ⟨w2.heap.size, 0, none⟩ (.slice none 0 0) (.inl (by simp)); have hs4 := hb4s.size; have _t := tok; clear tok; refine (al_g_false rfl hr4s (But.refl _ _)).mono ?_; rintro e w5 ⟨rfl, hr5, hb5⟩; have bF5 := hb5.heap bG4 (by simp; omega); have cF5 : w5.cell? ⟨w2.heap.size, 1, none⟩ = some (.slice none 0 0) := (by rw [cell_of_row w5 _ 1 _ _ _ bF5]; rfl); have fF5 : w5.frozen? ⟨w2.heap.size, 1, none⟩ = false := blk_free bF5; have bG5 : (w5.setCell ⟨w2.heap.size, 1, none⟩ (.slice none 0 0)).heap[w2.heap.size]? = some (.cells #[.slice none 0 0, .slice none 0 0, .complex .f64 x y] 35 (0, 0)) := blk_set _ _ _ _ _ _ bF5; have hr5s : Rr (w5.setCell ⟨w2.heap.size, 1, none⟩ (.slice none 0 0)) (W.heap.size + 1) s d 12 d := (Below.heap_setCell w5 ⟨w2.heap.size, 1, none⟩ (.slice none 0 0) (W.heap.size + 1) (by simp; omega)).trans hr5)
  have tok : True := trivial
  go_wp2_with (go_at_call 24; have _t := tok; clear tok; refine (rend_off _ _ _ 12 rfl s _ hr5s).mono ?_; rintro e w6 ⟨rfl, hb6⟩; have hb5s := (hb5.weak (qs' := [W.heap.size + 1, w2.heap.size]) (by simp; omega)).setCell ⟨w2.heap.size, 1, none⟩ (.slice none 0 0) (.inl (by simp)); have hbU2 := (hb4s.trans hb5s).trans (hb6.weak (by simp)); have hb2w := hb2.weak (qs' := [W.heap.size + 1, w2.heap.size]) (by simp; omega); have v0w : But [W.heap.size + 1, w2.heap.size] w2 U2 := v0.weak (by simp); have hUall := hb2w.trans (v0w.trans hbU2); have bF6 := hb6.heap bG5 (by simp); have zR := hUall.heap uA (by simp; omega); have z0 : w6.cell? ⟨W.heap.size, 0, none⟩ = some (.slice none 0 0) := (by rw [cell_of_row w6 _ 0 _ _ _ zR]; rfl); have z1 : w6.cell? ⟨W.heap.size, 1, none⟩ = some (.slice none 0 0) := (by rw [cell_of_row w6 _ 1 _ _ _ zR]; rfl); have z2 : w6.cell? ⟨W.heap.size, 2, none⟩ = some (.complex .f64 0 0) := (by rw [cell_of_row w6 _ 2 _ _ _ zR]; rfl); have g0 : (w6).frozen? ⟨W.heap.size, 0, none⟩ = false := blk_free zR; have s0 := blk_set (w6) W.heap.size 0 _ 35 (.slice none 0 0) zR; have g1 : ((w6).setCell ⟨W.heap.size, 0, none⟩ (.slice none 0 0)).frozen? ⟨W.heap.size, 1, none⟩ = false := blk_free s0; have s1 := blk_set ((w6).setCell ⟨W.heap.size, 0, none⟩ (.slice none 0 0)) W.heap.size 1 _ 35 (.slice none 0 0) s0; have g2 : (((w6).setCell ⟨W.heap.size, 0, none⟩ (.slice none 0 0)).setCell ⟨W.heap.size, 1, none⟩ (.slice none 0 0)).frozen? ⟨W.heap.size, 2, none⟩ = false := blk_free s1; have s2 := blk_set (((w6).setCell ⟨W.heap.size, 0, none⟩ (.slice none 0 0)).setCell ⟨W.heap.size, 1, none⟩ (.slice none 0 0)) W.heap.size 2 _ 35 (.complex .f64 0 0) s1)
  refine bodyPost_ret (v := .tuple #[.agg #[.slice none 0 0, .slice none 0 0, .complex .f64 0 0], .int .i64 ((d : Nat) : Int), .int .i64 ((12 : Nat) : Int)]) ?_ rfl ?_
  · rw [results_cell_tmp2 (fn := Tryz.f14) rfl]
    simp only [List.getElem_toArray, Array.getD]
    simp [asAddr, Sem.run_pure, Result.andThen]
    rw [run_loadVar_row _ W.heap.size 35 35 _ _ _ s2 Tryz.underlying35 rfl (by kernel_rfl)]
    rfl
  · have hB1 := (((But.refl [W.heap.size] w6).setCell ⟨W.heap.size, 0, none⟩ (.slice none 0 0) (.inl (by simp))).setCell ⟨W.heap.size, 1, none⟩ (.slice none 0 0) (.inl (by simp))).setCell ⟨W.heap.size, 2, none⟩ (.complex .f64 0 0) (.inl (by simp))
    have hBW := u0.then (qs := []) ((hUall.weak (qs' := [W.heap.size, W.heap.size + 1, w2.heap.size]) (by simp; omega)).trans (hB1.weak (by simp; omega))) (by simp; omega)
    exact ⟨rfl, hBW⟩
set_option linter.unusedSimpArgs false in
set_option maxRecDepth 100000 in
set_option maxHeartbeats 2000000 in
theorem docz_3 (s : ByteArray) (hs : s.size ≤ 65536) (W : World) (b c d e1 f1 : Nat) (k1 : tk s.data.toList zpkT 0 = (true, b)) (k2 : nu s.data.toList b = (true, c)) (k3 : FiN s.data.toList b c) (k4 : tk s.data.toList barT c = (true, d)) (hf0 : ((f1 : Int) == 0) = false) (hf1 : ((f1 : Int) != 0) = true) (kf : ro true s.data.toList 26 d 0 = (false, e1, f1)) : Calls Tryz.prog 14 #[.string s] W fun e w' => e = ZpE e1 f1 ∧ But [] W w' := by
  have t1 : decide ((s.size : Int) > 65536) = false := by simp; omega
  obtain ⟨U, hU⟩ : ∃ U, U = (W.alloc (.cells #[.slice none 0 0, .slice none 0 0, .complex .f64 0 0] 35)).alloc (.cells #[.string s, .int .i64 0, .int .i64 0, .int .i64 0] 60) := ⟨_, rfl⟩
  have u0 : But [] W U := hU ▸ ((But.refl [] W).alloc _).alloc _
  have uS : U.heap.size = W.heap.size + 2 := by rw [hU]; simp
  have uA : U.heap[W.heap.size]? = some (.cells #[.slice none 0 0, .slice none 0 0, .complex .f64 0 0] 35 (0, 0)) := by rw [hU]; exact a2_0 _ _ _
  have uQ : Rr U (W.heap.size + 1) s 0 0 0 := by rw [hU]; exact a2_1 _ _ _
  have l1 : b ≤ s.size := by have := tk_le k1 (Nat.zero_le _); simpa using this
  have l2 : c ≤ s.size := by have := nu_le k2 (by simpa using l1); simpa using this
  have l3 : d ≤ s.size := by have := tk_le k4 (by simpa using l2); simpa using this
  have K1 := Lib.hid k1
  have K2 := Lib.hid k2
  have K3 := Lib.hid k3
  have K4 := Lib.hid k4
  have KF := Lib.hid kf
  clear k1 k2 k3 k4 kf
  unfold zpkT at K1
  unfold barT at K4
  go_enter Tryz.func14, Tryz.ntmps14
  have tok : True := trivial
  go_wp2_with (go_at_call 34; rw [← hU]; have _t := tok; clear tok; refine (wt_ok (w0 := U) [122, 112, 107, 32] (by decide) hs (Nat.zero_le _) uQ (But.refl _ _) K1.out).mono ?_; rintro e w1 ⟨rfl, hr1, hb1⟩)
  have tok : True := trivial
  go_wp2_with (go_at_call 23; have _t := tok; clear tok; refine (nt_c hs l1 hr1 hb1 K2.out K3.out).mono ?_; rintro e w2 ⟨x, y, rfl, hxy, hr2, hb2⟩; have HXY := Lib.hid hxy; clear hxy)
  have tok : True := trivial
  go_wp2_with (go_at_call 34; obtain ⟨U2, hU2⟩ : ∃ U2, U2 = w2.alloc (.cells #[.slice none 0 0, .slice none 0 0, .complex .f64 x y] 35) := ⟨_, rfl⟩; have v0 : But [] w2 U2 := hU2 ▸ (But.refl [] w2).alloc _; have v2 : U2.heap[w2.heap.size]? = some (.cells #[.slice none 0 0, .slice none 0 0, .complex .f64 x y] 35 (0, 0)) := (by rw [hU2]; show (w2.heap.push _)[_]? = _; exact Array.getElem?_push_size); have hr2u := hr2.keep v0 (by simp); have hs2 := hb2.size; rw [← hU2]; have _t := tok; clear tok; refine (wt_ok [32, 124] (by decide) hs l2 hr2u (But.refl _ U2) K4.out).mono ?_; rintro e w3 ⟨rfl, hr3, hb3⟩)
  have tok : True := trivial
  go_wp2_with (go_at_call 35; have _t := tok; clear tok; refine (all_bad_true hs l3 hr3 hb3 KF.out).mono ?_; rintro e w4 ⟨pz, nz, kz, d4, rfl, hr4, hb4⟩; have bF4 := hb4.heap v2 (by simp; omega); have cF4 : w4.cell? ⟨w2.heap.size, 0, none⟩ = some (.slice none 0 0) := (by rw [cell_of_row w4 _ 0 _ _ _ bF4]; rfl); have fF4 : w4.frozen? ⟨w2.heap.size, 0, none⟩ = false := blk_free bF4; have bG4 : (w4.setCell ⟨w2.heap.size, 0, none⟩ (.slice pz nz kz)).heap[w2.heap.size]? = some (.cells #[.slice pz nz kz, .slice none 0 0, .complex .f64 x y] 35 (0, 0)) := blk_set _ _ _ _ _ _ bF4; have hr4s : Rr (w4.setCell ⟨w2.heap.size, 0, none⟩ (.slice pz nz kz)) (W.heap.size + 1) s d4 f1 e1 := (Below.heap_setCell w4 ⟨w2.heap.size, 0, none⟩ (.slice pz nz kz) (W.heap.size + 1) (by simp; omega)).trans hr4)
  have tok : True := trivial
  go_wp2_with (go_at_call 35; have hb4s := (hb4.weak (qs' := [W.heap.size + 1, w2.heap.size]) (by simp; omega)).setCell ⟨w2.heap.size, 0, none⟩ (.slice pz nz kz) (.inl (by simp)); have hs4 := hb4s.size; have _t := tok; clear tok; refine (al_g_false hf0 hr4s (But.refl _ _)).mono ?_; rintro e w5 ⟨rfl, hr5, hb5⟩; have bF5 := hb5.heap bG4 (by simp; omega); have cF5 : w5.cell? ⟨w2.heap.size, 1, none⟩ = some (.slice none 0 0) := (by rw [cell_of_row w5 _ 1 _ _ _ bF5]; rfl); have fF5 : w5.frozen? ⟨w2.heap.size, 1, none⟩ = false := blk_free bF5; have bG5 : (w5.setCell ⟨w2.heap.size, 1, none⟩ (.slice none 0 0)).heap[w2.heap.size]? = some (.cells #[.slice pz nz kz, .slice none 0 0, .complex .f64 x y] 35 (0, 0)) := blk_set _ _ _ _ _ _ bF5; have hr5s : Rr (w5.setCell ⟨w2.heap.size, 1, none⟩ (.slice none 0 0)) (W.heap.size + 1) s d4 f1 e1 := (Below.heap_setCell w5 ⟨w2.heap.size, 1, none⟩ (.slice none 0 0) (W.heap.size + 1) (by simp; omega)).trans hr5)
  have tok : True := trivial
  go_wp2_with (go_at_call 24; have _t := tok; clear tok; refine (rend_off _ _ _ f1 hf0 s _ hr5s).mono ?_; rintro e w6 ⟨rfl, hb6⟩; have hb5s := (hb5.weak (qs' := [W.heap.size + 1, w2.heap.size]) (by simp; omega)).setCell ⟨w2.heap.size, 1, none⟩ (.slice none 0 0) (.inl (by simp)); have hbU2 := (hb4s.trans hb5s).trans (hb6.weak (by simp)); have hb2w := hb2.weak (qs' := [W.heap.size + 1, w2.heap.size]) (by simp; omega); have v0w : But [W.heap.size + 1, w2.heap.size] w2 U2 := v0.weak (by simp); have hUall := hb2w.trans (v0w.trans hbU2); have bF6 := hb6.heap bG5 (by simp); have zR := hUall.heap uA (by simp; omega); have z0 : w6.cell? ⟨W.heap.size, 0, none⟩ = some (.slice none 0 0) := (by rw [cell_of_row w6 _ 0 _ _ _ zR]; rfl); have z1 : w6.cell? ⟨W.heap.size, 1, none⟩ = some (.slice none 0 0) := (by rw [cell_of_row w6 _ 1 _ _ _ zR]; rfl); have z2 : w6.cell? ⟨W.heap.size, 2, none⟩ = some (.complex .f64 0 0) := (by rw [cell_of_row w6 _ 2 _ _ _ zR]; rfl); have g0 : (w6).frozen? ⟨W.heap.size, 0, none⟩ = false := blk_free zR; have s0 := blk_set (w6) W.heap.size 0 _ 35 (.slice none 0 0) zR; have g1 : ((w6).setCell ⟨W.heap.size, 0, none⟩ (.slice none 0 0)).frozen? ⟨W.heap.size, 1, none⟩ = false := blk_free s0; have s1 := blk_set ((w6).setCell ⟨W.heap.size, 0, none⟩ (.slice none 0 0)) W.heap.size 1 _ 35 (.slice none 0 0) s0; have g2 : (((w6).setCell ⟨W.heap.size, 0, none⟩ (.slice none 0 0)).setCell ⟨W.heap.size, 1, none⟩ (.slice none 0 0)).frozen? ⟨W.heap.size, 2, none⟩ = false := blk_free s1; have s2 := blk_set (((w6).setCell ⟨W.heap.size, 0, none⟩ (.slice none 0 0)).setCell ⟨W.heap.size, 1, none⟩ (.slice none 0 0)) W.heap.size 2 _ 35 (.complex .f64 0 0) s1)
  refine bodyPost_ret (v := .tuple #[.agg #[.slice none 0 0, .slice none 0 0, .complex .f64 0 0], .int .i64 ((e1 : Nat) : Int), .int .i64 ((f1 : Nat) : Int)]) ?_ rfl ?_
  · rw [results_cell_tmp2 (fn := Tryz.f14) rfl]
    simp only [List.getElem_toArray, Array.getD]
    simp [asAddr, Sem.run_pure, Result.andThen]
    rw [run_loadVar_row _ W.heap.size 35 35 _ _ _ s2 Tryz.underlying35 rfl (by kernel_rfl)]
    rfl
  · have hB1 := (((But.refl [W.heap.size] w6).setCell ⟨W.heap.size, 0, none⟩ (.slice none 0 0) (.inl (by simp))).setCell ⟨W.heap.size, 1, none⟩ (.slice none 0 0) (.inl (by simp))).setCell ⟨W.heap.size, 2, none⟩ (.complex .f64 0 0) (.inl (by simp))
    have hBW := u0.then (qs := []) ((hUall.weak (qs' := [W.heap.size, W.heap.size + 1, w2.heap.size]) (by simp; omega)).trans (hB1.weak (by simp; omega))) (by simp; omega)
    exact ⟨rfl, hBW⟩
set_option linter.unusedSimpArgs false in
set_option maxRecDepth 100000 in
set_option maxHeartbeats 2000000 in
theorem docz_4 (s : ByteArray) (hs : s.size ≤ 65536) (W : World) (b c d e1 f1 e2 f2 : Nat) (k1 : tk s.data.toList zpkT 0 = (true, b)) (k2 : nu s.data.toList b = (true, c)) (k3 : FiN s.data.toList b c) (k4 : tk s.data.toList barT c = (true, d)) (k5 : ro true s.data.toList 26 d 0 = (true, e1, f1)) (hf0 : ((f2 : Int) == 0) = false) (hf1 : ((f2 : Int) != 0) = true) (kf : ro false s.data.toList 26 e1 0 = (false, e2, f2)) : Calls Tryz.prog 14 #[.string s] W fun e w' => e = ZpE e2 f2 ∧ But [] W w' := by
  have t1 : decide ((s.size : Int) > 65536) = false := by simp; omega
  obtain ⟨U, hU⟩ : ∃ U, U = (W.alloc (.cells #[.slice none 0 0, .slice none 0 0, .complex .f64 0 0] 35)).alloc (.cells #[.string s, .int .i64 0, .int .i64 0, .int .i64 0] 60) := ⟨_, rfl⟩
  have u0 : But [] W U := hU ▸ ((But.refl [] W).alloc _).alloc _
  have uS : U.heap.size = W.heap.size + 2 := by rw [hU]; simp
  have uA : U.heap[W.heap.size]? = some (.cells #[.slice none 0 0, .slice none 0 0, .complex .f64 0 0] 35 (0, 0)) := by rw [hU]; exact a2_0 _ _ _
  have uQ : Rr U (W.heap.size + 1) s 0 0 0 := by rw [hU]; exact a2_1 _ _ _
  have l1 : b ≤ s.size := by have := tk_le k1 (Nat.zero_le _); simpa using this
  have l2 : c ≤ s.size := by have := nu_le k2 (by simpa using l1); simpa using this
  have l3 : d ≤ s.size := by have := tk_le k4 (by simpa using l2); simpa using this
  have K1 := Lib.hid k1
  have K2 := Lib.hid k2
  have K3 := Lib.hid k3
  have K4 := Lib.hid k4
  have K5 := Lib.hid k5
  have KF := Lib.hid kf
  clear k1 k2 k3 k4 k5 kf
  unfold zpkT at K1
  unfold barT at K4
  go_enter Tryz.func14, Tryz.ntmps14
  have tok : True := trivial
  go_wp2_with (go_at_call 34; rw [← hU]; have _t := tok; clear tok; refine (wt_ok (w0 := U) [122, 112, 107, 32] (by decide) hs (Nat.zero_le _) uQ (But.refl _ _) K1.out).mono ?_; rintro e w1 ⟨rfl, hr1, hb1⟩)
  have tok : True := trivial
  go_wp2_with (go_at_call 23; have _t := tok; clear tok; refine (nt_c hs l1 hr1 hb1 K2.out K3.out).mono ?_; rintro e w2 ⟨x, y, rfl, hxy, hr2, hb2⟩; have HXY := Lib.hid hxy; clear hxy)
  have tok : True := trivial
  go_wp2_with (go_at_call 34; obtain ⟨U2, hU2⟩ : ∃ U2, U2 = w2.alloc (.cells #[.slice none 0 0, .slice none 0 0, .complex .f64 x y] 35) := ⟨_, rfl⟩; have v0 : But [] w2 U2 := hU2 ▸ (But.refl [] w2).alloc _; have v2 : U2.heap[w2.heap.size]? = some (.cells #[.slice none 0 0, .slice none 0 0, .complex .f64 x y] 35 (0, 0)) := (by rw [hU2]; show (w2.heap.push _)[_]? = _; exact Array.getElem?_push_size); have hr2u := hr2.keep v0 (by simp); have hs2 := hb2.size; rw [← hU2]; have _t := tok; clear tok; refine (wt_ok [32, 124] (by decide) hs l2 hr2u (But.refl _ U2) K4.out).mono ?_; rintro e w3 ⟨rfl, hr3, hb3⟩)
  have tok : True := trivial
  go_wp2_with (go_at_call 35; have _t := tok; clear tok; refine (all_ok_true hs l3 hr3 hb3 K5.out).mono ?_; rintro e w4 ⟨zs, pz, nz, kz, rfl, hzz, hr4, hb4⟩; have HZ := Lib.hid hzz; clear hzz; have l4 : e1 ≤ s.size := (by have := HZ.out.2.1.le (by simpa using l3); simpa using this); have bF4 := hb4.heap v2 (by simp; omega); have cF4 : w4.cell? ⟨w2.heap.size, 0, none⟩ = some (.slice none 0 0) := (by rw [cell_of_row w4 _ 0 _ _ _ bF4]; rfl); have fF4 : w4.frozen? ⟨w2.heap.size, 0, none⟩ = false := blk_free bF4; have bG4 : (w4.setCell ⟨w2.heap.size, 0, none⟩ (.slice pz nz kz)).heap[w2.heap.size]? = some (.cells #[.slice pz nz kz, .slice none 0 0, .complex .f64 x y] 35 (0, 0)) := blk_set _ _ _ _ _ _ bF4; have hr4s : Rr (w4.setCell ⟨w2.heap.size, 0, none⟩ (.slice pz nz kz)) (W.heap.size + 1) s e1 0 0 := (Below.heap_setCell w4 ⟨w2.heap.size, 0, none⟩ (.slice pz nz kz) (W.heap.size + 1) (by simp; omega)).trans hr4)
  have tok : True := trivial
  go_wp2_with (go_at_call 35; have hb4s := (hb4.weak (qs' := [W.heap.size + 1, w2.heap.size]) (by simp; omega)).setCell ⟨w2.heap.size, 0, none⟩ (.slice pz nz kz) (.inl (by simp)); have hs4 := hb4s.size; have _t := tok; clear tok; refine (all_bad_false hs l4 hr4s (But.refl _ _) KF.out).mono ?_; rintro e w5 ⟨pp, np, kp, d5, rfl, hr5, hb5⟩; have bF5 := hb5.heap bG4 (by simp; omega); have cF5 : w5.cell? ⟨w2.heap.size, 1, none⟩ = some (.slice none 0 0) := (by rw [cell_of_row w5 _ 1 _ _ _ bF5]; rfl); have fF5 : w5.frozen? ⟨w2.heap.size, 1, none⟩ = false := blk_free bF5; have bG5 : (w5.setCell ⟨w2.heap.size, 1, none⟩ (.slice pp np kp)).heap[w2.heap.size]? = some (.cells #[.slice pz nz kz, .slice pp np kp, .complex .f64 x y] 35 (0, 0)) := blk_set _ _ _ _ _ _ bF5; have hr5s : Rr (w5.setCell ⟨w2.heap.size, 1, none⟩ (.slice pp np kp)) (W.heap.size + 1) s d5 f2 e2 := (Below.heap_setCell w5 ⟨w2.heap.size, 1, none⟩ (.slice pp np kp) (W.heap.size + 1) (by simp; omega)).trans hr5)
  have tok : True := trivial
  go_wp2_with (go_at_call 24; have _t := tok; clear tok; refine (rend_off _ _ _ f2 hf0 s _ hr5s).mono ?_; rintro e w6 ⟨rfl, hb6⟩; have hb5s := (hb5.weak (qs' := [W.heap.size + 1, w2.heap.size]) (by simp; omega)).setCell ⟨w2.heap.size, 1, none⟩ (.slice pp np kp) (.inl (by simp)); have hbU2 := (hb4s.trans hb5s).trans (hb6.weak (by simp)); have hb2w := hb2.weak (qs' := [W.heap.size + 1, w2.heap.size]) (by simp; omega); have v0w : But [W.heap.size + 1, w2.heap.size] w2 U2 := v0.weak (by simp); have hUall := hb2w.trans (v0w.trans hbU2); have bF6 := hb6.heap bG5 (by simp); have zR := hUall.heap uA (by simp; omega); have z0 : w6.cell? ⟨W.heap.size, 0, none⟩ = some (.slice none 0 0) := (by rw [cell_of_row w6 _ 0 _ _ _ zR]; rfl); have z1 : w6.cell? ⟨W.heap.size, 1, none⟩ = some (.slice none 0 0) := (by rw [cell_of_row w6 _ 1 _ _ _ zR]; rfl); have z2 : w6.cell? ⟨W.heap.size, 2, none⟩ = some (.complex .f64 0 0) := (by rw [cell_of_row w6 _ 2 _ _ _ zR]; rfl); have g0 : (w6).frozen? ⟨W.heap.size, 0, none⟩ = false := blk_free zR; have s0 := blk_set (w6) W.heap.size 0 _ 35 (.slice none 0 0) zR; have g1 : ((w6).setCell ⟨W.heap.size, 0, none⟩ (.slice none 0 0)).frozen? ⟨W.heap.size, 1, none⟩ = false := blk_free s0; have s1 := blk_set ((w6).setCell ⟨W.heap.size, 0, none⟩ (.slice none 0 0)) W.heap.size 1 _ 35 (.slice none 0 0) s0; have g2 : (((w6).setCell ⟨W.heap.size, 0, none⟩ (.slice none 0 0)).setCell ⟨W.heap.size, 1, none⟩ (.slice none 0 0)).frozen? ⟨W.heap.size, 2, none⟩ = false := blk_free s1; have s2 := blk_set (((w6).setCell ⟨W.heap.size, 0, none⟩ (.slice none 0 0)).setCell ⟨W.heap.size, 1, none⟩ (.slice none 0 0)) W.heap.size 2 _ 35 (.complex .f64 0 0) s1)
  refine bodyPost_ret (v := .tuple #[.agg #[.slice none 0 0, .slice none 0 0, .complex .f64 0 0], .int .i64 ((e2 : Nat) : Int), .int .i64 ((f2 : Nat) : Int)]) ?_ rfl ?_
  · rw [results_cell_tmp2 (fn := Tryz.f14) rfl]
    simp only [List.getElem_toArray, Array.getD]
    simp [asAddr, Sem.run_pure, Result.andThen]
    rw [run_loadVar_row _ W.heap.size 35 35 _ _ _ s2 Tryz.underlying35 rfl (by kernel_rfl)]
    rfl
  · have hB1 := (((But.refl [W.heap.size] w6).setCell ⟨W.heap.size, 0, none⟩ (.slice none 0 0) (.inl (by simp))).setCell ⟨W.heap.size, 1, none⟩ (.slice none 0 0) (.inl (by simp))).setCell ⟨W.heap.size, 2, none⟩ (.complex .f64 0 0) (.inl (by simp))
    have hBW := u0.then (qs := []) ((hUall.weak (qs' := [W.heap.size, W.heap.size + 1, w2.heap.size]) (by simp; omega)).trans (hB1.weak (by simp; omega))) (by simp; omega)
    exact ⟨rfl, hBW⟩
set_option linter.unusedSimpArgs false in
set_option maxRecDepth 100000 in
set_option maxHeartbeats 2000000 in
theorem docz_5 (s : ByteArray) (hs : s.size ≤ 65536) (W : World) (b c d e1 f1 e2 f2 : Nat) (k1 : tk s.data.toList zpkT 0 = (true, b)) (k2 : nu s.data.toList b = (true, c)) (k3 : FiN s.data.toList b c) (k4 : tk s.data.toList barT c = (true, d)) (k5 : ro true s.data.toList 26 d 0 = (true, e1, f1)) (k6 : ro false s.data.toList 26 e1 0 = (true, e2, f2))  : Calls Tryz.prog 14 #[.string s] W fun e w' => But [] W w' ∧ ∃ x y pz nz kz pp np kp zs ps, e = .returned (.tuple #[.agg #[.slice pz nz kz, .slice pp np kp, .complex .f64 x y], .int .i64 0, .int .i64 0]) ∧ OZ w' W.heap.size (.slice pz nz kz) zs ∧ OZ w' W.heap.size (.slice pp np kp) ps ∧ ZpT s.data.toList (x, y) zs ps := by
  have t1 : decide ((s.size : Int) > 65536) = false := by simp; omega
  obtain ⟨U, hU⟩ : ∃ U, U = (W.alloc (.cells #[.slice none 0 0, .slice none 0 0, .complex .f64 0 0] 35)).alloc (.cells #[.string s, .int .i64 0, .int .i64 0, .int .i64 0] 60) := ⟨_, rfl⟩
  have u0 : But [] W U := hU ▸ ((But.refl [] W).alloc _).alloc _
  have uS : U.heap.size = W.heap.size + 2 := by rw [hU]; simp
  have uA : U.heap[W.heap.size]? = some (.cells #[.slice none 0 0, .slice none 0 0, .complex .f64 0 0] 35 (0, 0)) := by rw [hU]; exact a2_0 _ _ _
  have uQ : Rr U (W.heap.size + 1) s 0 0 0 := by rw [hU]; exact a2_1 _ _ _
  have l1 : b ≤ s.size := by have := tk_le k1 (Nat.zero_le _); simpa using this
  have l2 : c ≤ s.size := by have := nu_le k2 (by simpa using l1); simpa using this
  have l3 : d ≤ s.size := by have := tk_le k4 (by simpa using l2); simpa using this
  have K1 := Lib.hid k1
  have K2 := Lib.hid k2
  have K3 := Lib.hid k3
  have K4 := Lib.hid k4
  have K5 := Lib.hid k5
  have K6 := Lib.hid k6
  clear k1 k2 k3 k4 k5 k6
  unfold zpkT at K1
  unfold barT at K4
  go_enter Tryz.func14, Tryz.ntmps14
  have tok : True := trivial
  go_wp2_with (go_at_call 34; rw [← hU]; have _t := tok; clear tok; refine (wt_ok (w0 := U) [122, 112, 107, 32] (by decide) hs (Nat.zero_le _) uQ (But.refl _ _) K1.out).mono ?_; rintro e w1 ⟨rfl, hr1, hb1⟩)
  have tok : True := trivial
  go_wp2_with (go_at_call 23; have _t := tok; clear tok; refine (nt_c hs l1 hr1 hb1 K2.out K3.out).mono ?_; rintro e w2 ⟨x, y, rfl, hxy, hr2, hb2⟩; have HXY := Lib.hid hxy; clear hxy)
  have tok : True := trivial
  go_wp2_with (go_at_call 34; obtain ⟨U2, hU2⟩ : ∃ U2, U2 = w2.alloc (.cells #[.slice none 0 0, .slice none 0 0, .complex .f64 x y] 35) := ⟨_, rfl⟩; have v0 : But [] w2 U2 := hU2 ▸ (But.refl [] w2).alloc _; have v2 : U2.heap[w2.heap.size]? = some (.cells #[.slice none 0 0, .slice none 0 0, .complex .f64 x y] 35 (0, 0)) := (by rw [hU2]; show (w2.heap.push _)[_]? = _; exact Array.getElem?_push_size); have hr2u := hr2.keep v0 (by simp); have hs2 := hb2.size; rw [← hU2]; have _t := tok; clear tok; refine (wt_ok [32, 124] (by decide) hs l2 hr2u (But.refl _ U2) K4.out).mono ?_; rintro e w3 ⟨rfl, hr3, hb3⟩)
  have tok : True := trivial
  go_wp2_with (go_at_call 35; have _t := tok; clear tok; refine (all_ok_true hs l3 hr3 hb3 K5.out).mono ?_; rintro e w4 ⟨zs, pz, nz, kz, rfl, hzz, hr4, hb4⟩; have HZ := Lib.hid hzz; clear hzz; have l4 : e1 ≤ s.size := (by have := HZ.out.2.1.le (by simpa using l3); simpa using this); have bF4 := hb4.heap v2 (by simp; omega); have cF4 : w4.cell? ⟨w2.heap.size, 0, none⟩ = some (.slice none 0 0) := (by rw [cell_of_row w4 _ 0 _ _ _ bF4]; rfl); have fF4 : w4.frozen? ⟨w2.heap.size, 0, none⟩ = false := blk_free bF4; have bG4 : (w4.setCell ⟨w2.heap.size, 0, none⟩ (.slice pz nz kz)).heap[w2.heap.size]? = some (.cells #[.slice pz nz kz, .slice none 0 0, .complex .f64 x y] 35 (0, 0)) := blk_set _ _ _ _ _ _ bF4; have hr4s : Rr (w4.setCell ⟨w2.heap.size, 0, none⟩ (.slice pz nz kz)) (W.heap.size + 1) s e1 0 0 := (Below.heap_setCell w4 ⟨w2.heap.size, 0, none⟩ (.slice pz nz kz) (W.heap.size + 1) (by simp; omega)).trans hr4)
  have tok : True := trivial
  go_wp2_with (go_at_call 35; have hb4s := (hb4.weak (qs' := [W.heap.size + 1, w2.heap.size]) (by simp; omega)).setCell ⟨w2.heap.size, 0, none⟩ (.slice pz nz kz) (.inl (by simp)); have hs4 := hb4s.size; have _t := tok; clear tok; refine (all_ok_false hs l4 hr4s (But.refl _ _) K6.out).mono ?_; rintro e w5 ⟨ps, pp, np, kp, rfl, hzz, hr5, hb5⟩; have HP := Lib.hid hzz; clear hzz; have l5 : e2 = s.size := (by have h1 := HP.out.2.1.le (by simpa using l4); have h2 := ro_whole _ _ _ _ _ _ K6.out; simp at h1 h2; omega); have bF5 := hb5.heap bG4 (by simp; omega); have cF5 : w5.cell? ⟨w2.heap.size, 1, none⟩ = some (.slice none 0 0) := (by rw [cell_of_row w5 _ 1 _ _ _ bF5]; rfl); have fF5 : w5.frozen? ⟨w2.heap.size, 1, none⟩ = false := blk_free bF5; have bG5 : (w5.setCell ⟨w2.heap.size, 1, none⟩ (.slice pp np kp)).heap[w2.heap.size]? = some (.cells #[.slice pz nz kz, .slice pp np kp, .complex .f64 x y] 35 (0, 0)) := blk_set _ _ _ _ _ _ bF5; have hr5s : Rr (w5.setCell ⟨w2.heap.size, 1, none⟩ (.slice pp np kp)) (W.heap.size + 1) s e2 0 0 := (Below.heap_setCell w5 ⟨w2.heap.size, 1, none⟩ (.slice pp np kp) (W.heap.size + 1) (by simp; omega)).trans hr5)
  have tok : True := trivial
  go_wp2_with (go_at_call 24; have _t := tok; clear tok; refine (rend_full _ _ _ s l5 _ hr5s).mono ?_; rintro e w6 ⟨rfl, hb6⟩; have hb5s := (hb5.weak (qs' := [W.heap.size + 1, w2.heap.size]) (by simp; omega)).setCell ⟨w2.heap.size, 1, none⟩ (.slice pp np kp) (.inl (by simp)); have hbU2 := (hb4s.trans hb5s).trans (hb6.weak (by simp)); have hb2w := hb2.weak (qs' := [W.heap.size + 1, w2.heap.size]) (by simp; omega); have v0w : But [W.heap.size + 1, w2.heap.size] w2 U2 := v0.weak (by simp); have hUall := hb2w.trans (v0w.trans hbU2); have bF6 := hb6.heap bG5 (by simp); have zR := hUall.heap uA (by simp; omega); have z0 : w6.cell? ⟨W.heap.size, 0, none⟩ = some (.slice none 0 0) := (by rw [cell_of_row w6 _ 0 _ _ _ zR]; rfl); have z1 : w6.cell? ⟨W.heap.size, 1, none⟩ = some (.slice none 0 0) := (by rw [cell_of_row w6 _ 1 _ _ _ zR]; rfl); have z2 : w6.cell? ⟨W.heap.size, 2, none⟩ = some (.complex .f64 0 0) := (by rw [cell_of_row w6 _ 2 _ _ _ zR]; rfl); have c0 : w6.cell? ⟨w2.heap.size, 0, none⟩ = some (.slice pz nz kz) := (by rw [cell_of_row w6 _ 0 _ _ _ bF6]; rfl); have c1 : w6.cell? ⟨w2.heap.size, 1, none⟩ = some (.slice pp np kp) := (by rw [cell_of_row w6 _ 1 _ _ _ bF6]; rfl); have c2 : w6.cell? ⟨w2.heap.size, 2, none⟩ = some (.complex .f64 x y) := (by rw [cell_of_row w6 _ 2 _ _ _ bF6]; rfl); have g0 : (w6).frozen? ⟨W.heap.size, 0, none⟩ = false := blk_free zR; have s0 := blk_set (w6) W.heap.size 0 _ 35 (.slice pz nz kz) zR; have g1 : ((w6).setCell ⟨W.heap.size, 0, none⟩ (.slice pz nz kz)).frozen? ⟨W.heap.size, 1, none⟩ = false := blk_free s0; have s1 := blk_set ((w6).setCell ⟨W.heap.size, 0, none⟩ (.slice pz nz kz)) W.heap.size 1 _ 35 (.slice pp np kp) s0; have g2 : (((w6).setCell ⟨W.heap.size, 0, none⟩ (.slice pz nz kz)).setCell ⟨W.heap.size, 1, none⟩ (.slice pp np kp)).frozen? ⟨W.heap.size, 2, none⟩ = false := blk_free s1; have s2 := blk_set (((w6).setCell ⟨W.heap.size, 0, none⟩ (.slice pz nz kz)).setCell ⟨W.heap.size, 1, none⟩ (.slice pp np kp)) W.heap.size 2 _ 35 (.complex .f64 x y) s1)
  refine bodyPost_ret (v := .tuple #[.agg #[.slice pz nz kz, .slice pp np kp, .complex .f64 x y], .int .i64 0, .int .i64 0]) ?_ rfl ?_
  · rw [results_cell_tmp2 (fn := Tryz.f14) rfl]
    simp only [List.getElem_toArray, Array.getD]
    simp [asAddr, Sem.run_pure, Result.andThen]
    rw [run_loadVar_row _ W.heap.size 35 35 _ _ _ s2 Tryz.underlying35 rfl (by kernel_rfl)]
    rfl
  · have hB1 := (((But.refl [W.heap.size] w6).setCell ⟨W.heap.size, 0, none⟩ (.slice pz nz kz) (.inl (by simp))).setCell ⟨W.heap.size, 1, none⟩ (.slice pp np kp) (.inl (by simp))).setCell ⟨W.heap.size, 2, none⟩ (.complex .f64 x y) (.inl (by simp))
    have hBW := u0.then (qs := []) ((hUall.weak (qs' := [W.heap.size, W.heap.size + 1, w2.heap.size]) (by simp; omega)).trans (hB1.weak (by simp; omega))) (by simp; omega)
    have hz0 := HZ.out.1.low (show W.heap.size + 2 ≤ _ by have := hb3.size; have := v0.size; omega)
    have hp0 := HP.out.1.low (show W.heap.size + 2 ≤ _ by have := hb4s.size; have := v0.size; omega)
    have hbz : But [W.heap.size, W.heap.size + 1, w2.heap.size] w4 _ := ((((But.refl [w2.heap.size] w4).setCell ⟨w2.heap.size, 0, none⟩ (.slice pz nz kz) (.inl (by simp))).weak (qs' := [W.heap.size, W.heap.size + 1, w2.heap.size]) (by simp; omega)).trans (hb5s.weak (by simp; omega))).trans ((hb6.weak (by simp)).trans (hB1.weak (by simp; omega)))
    have hbp : But [W.heap.size, W.heap.size + 1, w2.heap.size] w5 _ := (((But.refl [w2.heap.size] w5).setCell ⟨w2.heap.size, 1, none⟩ (.slice pp np kp) (.inl (by simp))).weak (qs' := [W.heap.size, W.heap.size + 1, w2.heap.size]) (by simp; omega)).trans ((hb6.weak (by simp)).trans (hB1.weak (by simp; omega)))
    have hz1 := hz0.keep hbz (fun g hg => by have h1 := HZ.out.1.block g hg; have h2 := hb3.size; have h3 : U2.heap.size = w2.heap.size + 1 := (by rw [hU2]; simp); simp; omega)
    have hp1 := hp0.keep hbp (fun g hg => by have h1 := HP.out.1.block g hg; have h2 := hb4s.size; have h3 : U2.heap.size = w2.heap.size + 1 := (by rw [hU2]; simp); simp; omega)
    exact ⟨hBW, x, y, pz, nz, kz, pp, np, kp, zs, ps, rfl, hz1.low (by omega), hp1.low (by omega), zpT_of (g := (x, y)) ⟨HXY.out.1, HXY.out.2.1⟩ HXY.out.2.2.2 (tk_is _ _ _ _ K1.out) HXY.out.2.2.1 (tk_is _ _ _ _ K4.out) HZ.out.2.1 (by simpa using HP.out.2.1) (ro_whole _ _ _ _ _ _ K6.out) HZ.out.2.2.2 HP.out.2.2.2 HZ.out.2.2.1 HP.out.2.2.1⟩

/-- Every DocReadZpk. -/
theorem DocReadZpk_any (s : ByteArray) (W : World) : Calls Tryz.prog 14 #[.string s] W fun e w' => (65536 < s.size ∧ e = ZpE 0 2 ∧ But [] W w') ∨ (s.size ≤ 65536 ∧ (∃ b f, zp s.data.toList = (false, b, f) ∧ e = ZpE b f ∧ But [] W w')) ∨ (s.size ≤ 65536 ∧ (∃ b f, zp s.data.toList = (true, b, f)) ∧ But [] W w' ∧ ∃ x y pz nz kz pp np kp zs ps, e = .returned (.tuple #[.agg #[.slice pz nz kz, .slice pp np kp, .complex .f64 x y], .int .i64 0, .int .i64 0]) ∧ OZ w' W.heap.size (.slice pz nz kz) zs ∧ OZ w' W.heap.size (.slice pp np kp) ps ∧ ZpT s.data.toList (x, y) zs ps) := by
  by_cases hs : 65536 < s.size
  · exact (docz_long s hs W).mono fun e w' h => .inl ⟨hs, h.1, h.2⟩
  have hs' : s.size ≤ 65536 := by omega
  have key : ∀ b f, zp s.data.toList = (false, b, f) → (Calls Tryz.prog 14 #[.string s] W fun e w' => e = ZpE b f ∧ But [] W w') → Calls Tryz.prog 14 #[.string s] W fun e w' => (65536 < s.size ∧ e = ZpE 0 2 ∧ But [] W w') ∨ (s.size ≤ 65536 ∧ (∃ b f, zp s.data.toList = (false, b, f) ∧ e = ZpE b f ∧ But [] W w')) ∨ (s.size ≤ 65536 ∧ (∃ b f, zp s.data.toList = (true, b, f)) ∧ But [] W w' ∧ ∃ x y pz nz kz pp np kp zs ps, e = .returned (.tuple #[.agg #[.slice pz nz kz, .slice pp np kp, .complex .f64 x y], .int .i64 0, .int .i64 0]) ∧ OZ w' W.heap.size (.slice pz nz kz) zs ∧ OZ w' W.heap.size (.slice pp np kp) ps ∧ ZpT s.data.toList (x, y) zs ps) :=
    fun b f h hc => hc.mono fun e w' h2 => .inr (.inl ⟨hs', b, f, h, h2.1, h2.2⟩)
  rcases pair (x := tk s.data.toList zpkT 0) with ⟨b, k1⟩ | ⟨b, k1⟩
  · rcases pair (x := nu s.data.toList b) with ⟨c, k2⟩ | ⟨c, k2⟩
    · by_cases k3 : FiN s.data.toList b c
      · rcases pair (x := tk s.data.toList barT c) with ⟨d, k4⟩ | ⟨d, k4⟩
        · rcases trip (ro true s.data.toList 26 d 0) with ⟨e1, f1, k5⟩ | ⟨e1, f1, k5⟩
          · rcases trip (ro false s.data.toList 26 e1 0) with ⟨e2, f2, k6⟩ | ⟨e2, f2, k6⟩
            · exact (docz_5 s hs' W b c d e1 f1 e2 f2 k1 k2 k3 k4 k5 k6).mono fun e w' h => .inr (.inr ⟨hs', ⟨e2, f2, (zp_6 k1 k2 k3 k4 k5).trans k6⟩, h⟩)
            · have h := ro_err _ _ _ _ _ _ _ (by omega) (by omega) k6
              exact key e2 f2 ((zp_6 k1 k2 k3 k4 k5).trans k6) (docz_4 s hs' W b c d e1 f1 e2 f2 k1 k2 k3 k4 k5 (err_eq h) (err_ne h) k6)
          · have h := ro_err _ _ _ _ _ _ _ (by omega) (by omega) k5
            exact key e1 f1 (zp_5 k1 k2 k3 k4 k5) (docz_3 s hs' W b c d e1 f1 k1 k2 k3 k4 (err_eq h) (err_ne h) k5)
        · exact key d 12 (zp_4 k1 k2 k3 k4) (docz_2 s hs' W b c d k1 k2 k3 k4)
      · exact key b 5 (zp_3 k1 k2 k3) (docz_1 s hs' W b k1 b 5 rfl rfl (.inr ⟨c, k2, k3, rfl, rfl⟩))
    · exact key c 12 (zp_2 k1 k2) (docz_1 s hs' W b k1 c 12 rfl rfl (.inl ⟨k2, rfl⟩))
  · exact key b 12 (zp_1 k1) (docz_0 s hs' W b k1)
end Go.Proofs.YtnghppgpdeghfaaGreatDoor
