/- The reference's DocReadFilter: its loop. -/
import Derived.Test.YtnghppgpdeghfaaGreatDoorZf26
namespace Go.Proofs.YtnghppgpdeghfaaGreatDoor
open Go.RowKit Go.Proofs.YtnghppgpdeghfaaGreatDoor.Fl Go.Proofs.YtnghppgpdeghfaaGreatDoor.Pt Go.Proofs.YtnghppgpdeghfaaGreatDoor.Tx

/-- What DocReadFilter answers behind its beginning. -/
def DlW (A Q F a x y : Nat) (s : ByteArray) (W : World) (e : Ending) (w' : World) : Prop := But [A, Q, F] W w' ∧ ((∃ c ss p n k, so s.data.toList 18 a 0 = (true, c, 0) ∧ e = .returned (.tuple #[.agg #[.complex .f64 x y, .slice p n k], .int .i64 0, .int .i64 0]) ∧ OS w' W.heap.size (.slice p n k) ss ∧ Is s.data.toList a (scT ss) c ∧ ss.length ≤ 16 ∧ ∀ z ∈ ss, Sc5 z) ∨ (∃ b f : Nat, so s.data.toList 18 a 0 = (false, b, f) ∧ e = FlE b f))
/-- What lowers with every round. -/
def mq (Q : Nat) (s : ByteArray) (w : World) : Nat := if intOf ((w.cell? ⟨Q, 2, none⟩).getD undef) = 0 then s.size + 1 - atOf Q w else 0
theorem mq_good {w : World} {Q c p : Nat} {s : ByteArray} (h : Rr w Q s c 0 p) : mq Q s w = s.size + 1 - c := by
  unfold mq atOf; rw [h.cells.2.2.1, h.cells.2.1]; simp [intOf]
theorem mq_bad {w : World} {Q c f p : Nat} {s : ByteArray} (h : Rr w Q s c f p) (hf : ((f : Int) == 0) = false) : mq Q s w = 0 := by
  unfold mq; rw [h.cells.2.2.1]; simp [intOf] at hf ⊢; omega
set_option linter.unusedSimpArgs false in
set_option maxRecDepth 100000 in
set_option maxHeartbeats 4000000 in
theorem docf_go (s : ByteArray) (hs : s.size ≤ 65536) (W0 : World) (b0 a : Nat) (k1 : tk s.data.toList fltT 0 = (true, b0)) (k2 : nu s.data.toList b0 = (true, a)) (k3 : FiN s.data.toList b0 a) : Calls Tryz.prog 17 #[.string s] W0 fun e w' => (But [] W0 w' ∧ ∃ x y p n k ss c, (x < 18446744073709551616 ∧ y < 18446744073709551616 ∧ Is s.data.toList b0 (num x y) a ∧ finB x y = true) ∧ so s.data.toList 18 a 0 = (true, c, 0) ∧ e = .returned (.tuple #[.agg #[.complex .f64 x y, .slice p n k], .int .i64 0, .int .i64 0]) ∧ OS w' W0.heap.size (.slice p n k) ss ∧ Is s.data.toList a (scT ss) c ∧ ss.length ≤ 16 ∧ ∀ z ∈ ss, Sc5 z) ∨ (But [] W0 w' ∧ ∃ b f : Nat, so s.data.toList 18 a 0 = (false, b, f) ∧ e = FlE b f) := by
  have t0 : decide ((s.size : Int) > 65536) = false := by simp; omega
  obtain ⟨U, hU⟩ : ∃ U, U = (W0.alloc (.cells #[.complex .f64 0 0, .slice none 0 0] 40)).alloc (.cells #[.string s, .int .i64 0, .int .i64 0, .int .i64 0] 60) := ⟨_, rfl⟩
  have u0 : But [] W0 U := hU ▸ ((But.refl [] W0).alloc _).alloc _
  have uS : U.heap.size = W0.heap.size + 2 := by rw [hU]; simp
  have uA : U.heap[W0.heap.size]? = some (.cells #[.complex .f64 0 0, .slice none 0 0] 40 (0, 0)) := by rw [hU]; exact a2_0 _ _ _
  have uQ : Rr U (W0.heap.size + 1) s 0 0 0 := by rw [hU]; exact a2_1 _ _ _
  have l0 : b0 ≤ s.size := by have := tk_le k1 (Nat.zero_le _); simpa using this
  have la : a ≤ s.size := by have := nu_le k2 (by simpa using l0); simpa using this
  have K1 := Lib.hid k1
  have K2 := Lib.hid k2
  have K3 := Lib.hid k3
  clear k1 k2 k3
  unfold fltT at K1
  go_enter Tryz.func17, Tryz.ntmps17
  have tok : True := trivial
  go_wp2_with (go_at_call 34; rw [← hU]; have _t := tok; clear tok; refine (wt_ok (w0 := U) [102, 105, 108, 116, 101, 114, 32] (by decide) hs (Nat.zero_le _) uQ (But.refl _ _) K1.out).mono ?_; rintro e w1 ⟨rfl, hr1, hb1⟩)
  have tok : True := trivial
  go_wp2_with (go_at_call 23; have _t := tok; clear tok; refine (nt_c hs l0 hr1 hb1 K2.out K3.out).mono ?_; rintro e w2 ⟨x, y, rfl, hxy, hr2, hb2⟩; have HXY := Lib.hid hxy; clear hxy)
  obtain ⟨W, hW⟩ : ∃ W, W = w2.alloc (.cells #[.complex .f64 x y, .slice none 0 0] 40) := ⟨_, rfl⟩
  have v0 : But [] w2 W := hW ▸ (But.refl [] w2).alloc _
  have hF0 : W.heap[w2.heap.size]? = some (.cells #[.complex .f64 x y, .slice none 0 0] 40 (0, 0)) := by rw [hW]; show (w2.heap.push _)[_]? = _; exact Array.getElem?_push_size
  have hWS : W.heap.size = w2.heap.size + 1 := by rw [hW]; simp
  have hs2 := hb2.size
  obtain ⟨Q, hQ⟩ : ∃ Q, Q = W0.heap.size + 1 := ⟨_, rfl⟩
  obtain ⟨A, hA_⟩ : ∃ A, A = W0.heap.size := ⟨_, rfl⟩
  obtain ⟨F, hF_⟩ : ∃ F, F = w2.heap.size := ⟨_, rfl⟩
  have hr0 : Rr W Q s a 0 0 := hQ ▸ hr2.keep v0 (by simp)
  have hA : W.heap[A]? = some (.cells #[.complex .f64 0 0, .slice none 0 0] 40 (0, 0)) := hA_ ▸ v0.heap (hb2.heap uA (by simp)) (by simp)
  rw [← hF_] at hF0
  have hbUW : But [Q] U W := hQ ▸ hb2.trans (v0.weak (by simp))
  have hQW : Q < W.heap.size := by omega
  have hAW : A < W.heap.size := by omega
  have hFW : F < W.heap.size := by omega
  have hQF : Q ≠ F := by omega
  have hAQ : A ≠ Q := by omega
  have hAF : A ≠ F := by omega
  have hfin : ∀ e w', DlW A Q F a x y s W e w' → (But [] W0 w' ∧ ∃ x y p n k ss c, (x < 18446744073709551616 ∧ y < 18446744073709551616 ∧ Is s.data.toList b0 (num x y) a ∧ finB x y = true) ∧ so s.data.toList 18 a 0 = (true, c, 0) ∧ e = .returned (.tuple #[.agg #[.complex .f64 x y, .slice p n k], .int .i64 0, .int .i64 0]) ∧ OS w' W0.heap.size (.slice p n k) ss ∧ Is s.data.toList a (scT ss) c ∧ ss.length ≤ 16 ∧ ∀ z ∈ ss, Sc5 z) ∨ (But [] W0 w' ∧ ∃ b f : Nat, so s.data.toList 18 a 0 = (false, b, f) ∧ e = FlE b f) := by
    rintro e w' ⟨h1, h2⟩
    have hb : But [] W0 w' := u0.then ((hbUW.weak (qs' := [A, Q, F]) (by simp; omega)).trans h1) (by simp; omega)
    rcases h2 with ⟨c, ss, p, n, k, h3, h4, h5, h6, h7⟩ | ⟨b, f, h3, h4⟩
    · exact .inl ⟨hb, x, y, p, n, k, ss, c, HXY.out, h3, h4, h5.low (by omega), h6, h7⟩
    · exact .inr ⟨hb, b, f, h3, h4⟩
  go_wp2_with fail
  rw [← hW, ← hF_, ← hQ, ← hA_]
  clear hW v0 hb1 hr1 hb2 hr2 hU uA uQ hbUW hQ hA_ hF_
  go_loopw [] (fun wr => ∃ (ss : Secs) (p : Option Addr) (n k : Nat), ss.length ≤ 17 ∧ OS wr W.heap.size (.slice p n k) ss ∧ wr.heap[F]? = some (.cells #[.complex .f64 x y, .slice p n k] 40 (0, 0)) ∧ But [Q, F] W wr ∧ ((∃ c : Nat, ss.length ≤ 16 ∧ c ≤ s.size ∧ Rr wr Q s c 0 0 ∧ Hid (so s.data.toList 18 a 0 = so s.data.toList (18 - ss.length) c ss.length) ∧ Hid (Is s.data.toList a (scT ss) c) ∧ Hid (∀ z ∈ ss, Sc5 z)) ∨ (∃ b f d : Nat, (f = 12 ∨ f = 2 ∨ f = 5) ∧ Rr wr Q s d f b ∧ Hid (so s.data.toList 18 a 0 = (false, b, f))))) (fun wr => mq Q s wr)
  case atStart => exact ⟨[], none, 0, 0, by simp, World.ownsRow_nil W _ _ _, hF0, But.refl _ _, .inl ⟨a, by simp, la, hr0, Lib.hid rfl, Lib.hid (Is.nil _ _), Lib.hid (by simp)⟩⟩
  case round =>
    obtain ⟨ss, p, n, k, hl17, hos, hF, hb, ⟨c, hl16, hc, hr, hT, hI, hS⟩ | ⟨b, f, d, hf, hr, hE⟩⟩ := hrel
    · have hnl := hos.len
      subst hnl
      obtain ⟨z0, z1, z2, z3, zf⟩ := hr.cells
      clear zf
      by_cases he : c < s.size
      · have he' : c < s.data.toList.length := by simpa using he
        have t1 : decide ((c : Int) < (s.size : Int)) = true := decide_eq_true (by omega)
        have hfu : so s.data.toList (18 - ss.length) c ss.length = so s.data.toList ((17 - ss.length) + 1) c ss.length := by rw [show 18 - ss.length = (17 - ss.length) + 1 by omega]
        rcases pair (x := tk s.data.toList [32] c) with ⟨b, k1⟩ | ⟨b, k1⟩
        · have l1 : b ≤ s.size := by have := tk_le k1 (by simpa using hc); simpa using this
          by_cases h124 : s.data.toList[b]? = some 124
          · by_cases h16 : ss.length = 16
            · have HE := Lib.hid (hT.out.trans (hfu.trans (so_full he' k1 ⟨h124, h16⟩)))
              have q16 : ((ss.length : Int) == 16) = true := by simp; omega
              have x124 := Lib.hid (show decide (s.data.toList[b]? = some 124) = true from decide_eq_true h124)
              have K1 := Lib.hid k1
              have HR := Lib.hid hr
              clear hr hfu k1
              clear h124 h16
              go_wp2_with fail
              go_quiet (fail)
              have hrq := HR.out.keep ((But.refl [] wr).drewN nq) (by simp)
              have hbq := (But.refl [Q] wr).drewN nq
              have tok : True := trivial
              go_wp2_with (go_at_call 34; have _t := tok; clear tok; refine (wt_ok (w0 := wr) [32] (by decide) hs hc hrq hbq K1.out).mono ?_; rintro e w1 ⟨rfl, hr1, hb1⟩)
              have tok : True := trivial
              go_wp2_with (go_at_call 42; have _t := tok; clear tok; refine (is_c 124 true hr1 hb1 x124.out).mono ?_; rintro e w2 ⟨rfl, hr2, hb2⟩; obtain ⟨y0, y1, y2, y3, yf⟩ := hr2.cells; clear yf; have hFw2 := hb2.heap hF (by simp; omega); have cFw2 : w2.cell? ⟨F, 1, none⟩ = some (.slice p ss.length k) := (by rw [cell_of_row w2 F 1 _ _ _ hFw2]; rfl))
              have tok : True := trivial
              go_wp2_with (go_at_call 43; have _t := tok; clear tok; refine (fa_on 2 b hr2 hb2).mono ?_; rintro e w2f ⟨rfl, hr2f, hb2f⟩)
              have tok : True := trivial
              go_wp2_with (go_at_call 34; have _t := tok; clear tok; refine (wt_g rfl [124] (by decide) hr2f hb2f).mono ?_; rintro e w3 ⟨rfl, hr3, hb3⟩)
              obtain ⟨V, hV⟩ : ∃ V, V = w3.alloc (.cells #[.complex .f64 0 0, .complex .f64 0 0, .complex .f64 0 0, .complex .f64 0 0, .complex .f64 0 0] 90) := ⟨_, rfl⟩
              have v0 : But [] w3 V := hV ▸ (But.refl [] w3).alloc _
              have vX : V.heap[w3.heap.size]? = some (.cells #[.complex .f64 0 0, .complex .f64 0 0, .complex .f64 0 0, .complex .f64 0 0, .complex .f64 0 0] 90 (0, 0)) := by rw [hV]; show (w3.heap.push _)[_]? = _; exact Array.getElem?_push_size
              have hs3 := hb3.size
              have hsW := hb.size
              have hbV : But [Q] wr V := hb3.trans (v0.weak (by simp))
              have hosV := hos.keep hbV (fun g hg => by have := hos.block g hg; simp; omega)
              have hosl := hos.lt
              have hFV := hbV.heap hF (by simp; omega)
              have hrV := hr3.keep v0 (by simp)
              have hbWV : But [Q, F] W V := hb.trans (hbV.weak (by simp; omega))
              go_wp2_with fail
              rw [← hV]
              clear hV
              go_loopw [58] (fun i wr => ∃ (j : Nat) (l : List (Nat × Nat)), j ≤ 5 ∧ i = .int .i64 (j : Int) ∧ l.length = j ∧ But [Q, w3.heap.size] V wr ∧ wr.heap[w3.heap.size]? = some (.cells (arr5 l) 90 (0, 0)) ∧ Rr wr Q s b 2 b) (fun i _ => 5 - kOf i)
              case atStart => exact ⟨0, [], by omega, rfl, rfl, But.refl _ _, vX, hrV⟩
              case round =>
                obtain ⟨j, l, hj, rfl, hl, hbi, hX, hri⟩ := hrel
                by_cases hlt : j < 5
                · have t1i : (j : Int) < 5 := by omega
                  obtain ⟨y0, y1, y2, y3, yf⟩ := hri.cells
                  clear yf
                  have tok : True := trivial
                  go_wp2_with (go_at_call 34; have _t := tok; clear tok; refine (wt_g rfl [32] (by decide) hri (But.refl [Q] wr)).mono ?_; rintro e wj ⟨rfl, hrj, hbj⟩)
                  have tok : True := trivial
                  go_wp2_with (go_at_call 23; have _t := tok; clear tok; refine (nt_o rfl rfl hrj hbj).mono ?_; rintro e wk ⟨rfl, hrk, hbb⟩; have bX := hbb.heap hX (by simp; omega); have cX : wk.cell? ⟨w3.heap.size, j, none⟩ = some (cx (l.getD j (0, 0))) := (by rw [cell_of_row wk (w3.heap.size) j _ _ _ bX]; exact arr5_cell l j hlt); have fX : wk.frozen? ⟨w3.heap.size, j, none⟩ = false := blk_free bX)
                  exact ⟨⟨j + 1, l ++ [(0, 0)], by omega, by go_num, by simp [hl], (hbi.trans (hbb.weak (by simp; omega))).setCell ⟨w3.heap.size, j, none⟩ (.complex .f64 0 0) (.inl (by simp)), by rw [blk_set _ _ _ _ _ _ bX, ← hl, show Value.complex .f64 0 0 = cx (0, 0) from rfl, arr5_step l (0, 0) (by omega)], (Below.heap_setCell wk ⟨w3.heap.size, j, none⟩ (.complex .f64 0 0) Q (by simp; omega)).trans hrk⟩, by simp [kOf]; omega⟩
                · obtain rfl : j = 5 := by omega
                  obtain ⟨p0, p1, p2, p3, p4, rfl⟩ := five l hl
                  have hFi := hbi.heap hFV (by simp; omega)
                  have cFi : wr.cell? ⟨F, 1, none⟩ = some (.slice p ss.length k) := by rw [cell_of_row wr F 1 _ _ _ hFi]; rfl
                  have hosi := hosV.keep hbi (fun g hg => by have h1 := hosV.block g hg; have h2 := hosl g hg; simp; omega)
                  have hbWi : But [Q, F] W wr := hbWV.then hbi (by simp; omega)
                  have hsi := hbWi.size
                  have a0 : wr.cell? ⟨w3.heap.size, 0, none⟩ = some (.complex .f64 p0.1 p0.2) := by rw [cell_of_row wr _ 0 _ _ _ hX]; rfl
                  have a1 : wr.cell? ⟨w3.heap.size, 1, none⟩ = some (.complex .f64 p1.1 p1.2) := by rw [cell_of_row wr _ 1 _ _ _ hX]; rfl
                  have a2 : wr.cell? ⟨w3.heap.size, 2, none⟩ = some (.complex .f64 p2.1 p2.2) := by rw [cell_of_row wr _ 2 _ _ _ hX]; rfl
                  have a3 : wr.cell? ⟨w3.heap.size, 3, none⟩ = some (.complex .f64 p3.1 p3.2) := by rw [cell_of_row wr _ 3 _ _ _ hX]; rfl
                  have a4 : wr.cell? ⟨w3.heap.size, 4, none⟩ = some (.complex .f64 p4.1 p4.2) := by rw [cell_of_row wr _ 4 _ _ _ hX]; rfl
                  have t1i : ¬ ((5 : Int) < 5) := by omega
                  go_wp2_with (at_builtin; refine wpList_append_os rfl _ _ rfl W.heap.size _ ss rfl (hosi.alloc (.cells (arr5 [p0, p1, p2, p3, p4]) 75)) ⟨wr.heap.size, 0, none⟩ 1 [p0, p1, p2, p3, p4] rfl rfl (five_cells wr [p0, p1, p2, p3, p4] rfl) (by omega) (by simp; omega) ?_; intro v' w5 hos5 hgr5; have hbg : But (Value.slice p ss.length k).ownBlock.toList wr w5 := ((But.refl _ wr).alloc _).grown hgr5 (fun g hg => .inl (Option.mem_toList.2 (Option.mem_def.2 hg))); have hnq : ∀ q, q < W.heap.size → q ∉ (Value.slice p ss.length k).ownBlock.toList := (fun q hq h => by have := hosi.block q (Option.mem_def.1 (Option.mem_toList.1 h)); omega); have hF5 := hbg.heap hFi (hnq F hFW); have cF5 : w5.cell? ⟨F, 1, none⟩ = some (.slice p ss.length k) := (by rw [cell_of_row w5 F 1 _ _ _ hF5]; rfl); have fF5 : w5.frozen? ⟨F, 1, none⟩ = false := blk_free hF5; have hr5 := hri.keep hbg (hnq Q hQW); have hb5W : But [Q, F] W w5 := hbWi.then hbg (fun q hq h => absurd h (hnq q hq)); obtain ⟨p5, n5, k5, rfl⟩ := hos5.slice)
                  have hrF := fun c f q (h : Rr w5 Q s c f q) => (show Rr (w5.setCell ⟨F, 1, none⟩ (.slice p5 n5 k5)) Q s c f q from (Below.heap_setCell w5 ⟨F, 1, none⟩ (.slice p5 n5 k5) Q hQF).trans h)
                  refine ⟨⟨ss ++ [[p0, p1, p2, p3, p4]], p5, n5, k5, by rw [List.length_append, List.length_singleton]; omega, hos5.keep ((But.refl [F] w5).setCell ⟨F, 1, none⟩ (.slice p5 n5 k5) (.inl (by simp))) (fun g hg => by have := hos5.block g hg; simp; omega), blk_set _ _ _ _ _ _ hF5, hb5W.setCell _ _ (.inl (by simp)), .inr ⟨b, 2, b, .inr (.inl rfl), hrF _ _ _ hr5, HE⟩⟩, ?_⟩
                  · rw [mq_bad (hrF _ _ _ hr5) (rfl), mq_good HR.out]; omega
            · have k2 : tk s.data.toList [124] b = (true, b + 1) := by rw [tk, if_pos h124]; rfl
              have l2 : b + 1 ≤ s.size := by have := tk_le k2 (by simpa using l1); simpa using this
              have HN := Lib.hid (show ∀ d f, sn s.data.toList 5 (b + 1) = (true, d, f) → so s.data.toList 18 a 0 = so s.data.toList (17 - ss.length) d (ss.length + 1) from fun d f h => hT.out.trans (hfu.trans (so_next he' k1 (fun h => h16 h.2) k2 h)))
              have HB := Lib.hid (show ∀ e f, sn s.data.toList 5 (b + 1) = (false, e, f) → so s.data.toList 18 a 0 = (false, e, f) from fun e f h => hT.out.trans (hfu.trans (so_bad he' k1 (fun h => h16 h.2) k2 h)))
              have H16 := Lib.hid h16
              have q16 : ((ss.length : Int) == 16) = false := by simp; omega
              have x124 := Lib.hid (show decide (s.data.toList[b]? = some 124) = true from decide_eq_true h124)
              have K1 := Lib.hid k1
              have K2 := Lib.hid k2
              have HR := Lib.hid hr
              clear hr hfu k1 k2
              clear h124 h16
              go_wp2_with fail
              go_quiet (fail)
              have hrq := HR.out.keep ((But.refl [] wr).drewN nq) (by simp)
              have hbq := (But.refl [Q] wr).drewN nq
              have tok : True := trivial
              go_wp2_with (go_at_call 34; have _t := tok; clear tok; refine (wt_ok (w0 := wr) [32] (by decide) hs hc hrq hbq K1.out).mono ?_; rintro e w1 ⟨rfl, hr1, hb1⟩)
              have tok : True := trivial
              go_wp2_with (go_at_call 42; have _t := tok; clear tok; refine (is_c 124 true hr1 hb1 x124.out).mono ?_; rintro e w2 ⟨rfl, hr2, hb2⟩; obtain ⟨y0, y1, y2, y3, yf⟩ := hr2.cells; clear yf; have hFw2 := hb2.heap hF (by simp; omega); have cFw2 : w2.cell? ⟨F, 1, none⟩ = some (.slice p ss.length k) := (by rw [cell_of_row w2 F 1 _ _ _ hFw2]; rfl))
              have tok : True := trivial
              go_wp2_with (go_at_call 34; have _t := tok; clear tok; refine (wt_ok [124] (by decide) hs l1 hr2 hb2 K2.out).mono ?_; rintro e w3 ⟨rfl, hr3, hb3⟩)
              obtain ⟨V, hV⟩ : ∃ V, V = w3.alloc (.cells #[.complex .f64 0 0, .complex .f64 0 0, .complex .f64 0 0, .complex .f64 0 0, .complex .f64 0 0] 90) := ⟨_, rfl⟩
              have v0 : But [] w3 V := hV ▸ (But.refl [] w3).alloc _
              have vX : V.heap[w3.heap.size]? = some (.cells #[.complex .f64 0 0, .complex .f64 0 0, .complex .f64 0 0, .complex .f64 0 0, .complex .f64 0 0] 90 (0, 0)) := by rw [hV]; show (w3.heap.push _)[_]? = _; exact Array.getElem?_push_size
              have hs3 := hb3.size
              have hsW := hb.size
              have hbV : But [Q] wr V := hb3.trans (v0.weak (by simp))
              have hosV := hos.keep hbV (fun g hg => by have := hos.block g hg; simp; omega)
              have hosl := hos.lt
              have hFV := hbV.heap hF (by simp; omega)
              have hrV := hr3.keep v0 (by simp)
              have hbWV : But [Q, F] W V := hb.trans (hbV.weak (by simp; omega))
              go_wp2_with fail
              rw [← hV]
              clear hV
              go_loopw [58] (fun i wr => ∃ (j : Nat) (l : List (Nat × Nat)), j ≤ 5 ∧ i = .int .i64 (j : Int) ∧ l.length = j ∧ But [Q, w3.heap.size] V wr ∧ wr.heap[w3.heap.size]? = some (.cells (arr5 l) 90 (0, 0)) ∧ ((∃ c2 : Nat, c2 ≤ s.size ∧ Rr wr Q s c2 0 0 ∧ Hid (sn s.data.toList 5 (b + 1) = sn s.data.toList (5 - j) c2) ∧ Hid (Is s.data.toList (b + 1) (lsT l) c2) ∧ Hid (∀ p ∈ l, p.1 < 18446744073709551616 ∧ p.2 < 18446744073709551616 ∧ finB p.1 p.2 = true)) ∨ (∃ b2 f2 d2 : Nat, (f2 = 12 ∨ f2 = 2 ∨ f2 = 5) ∧ Rr wr Q s d2 f2 b2 ∧ Hid (sn s.data.toList 5 (b + 1) = (false, b2, f2))))) (fun i _ => 5 - kOf i)
              case atStart => exact ⟨0, [], by omega, rfl, rfl, But.refl _ _, vX, .inl ⟨b + 1, l2, hrV, Lib.hid rfl, Lib.hid (Is.nil _ _), Lib.hid (by simp)⟩⟩
              case round =>
                obtain ⟨j, l, hj, rfl, hl, hbi, hX, ⟨c2, hc2, hri, hTi, hIi, hFi2⟩ | ⟨b2, f2, d2, hf2, hri, hEi⟩⟩ := hrel
                · by_cases hlt : j < 5
                  · have t1i : (j : Int) < 5 := by omega
                    obtain ⟨y0, y1, y2, y3, yf⟩ := hri.cells
                    clear yf
                    have hfi : sn s.data.toList (5 - j) c2 = sn s.data.toList ((4 - j) + 1) c2 := by rw [show 5 - j = (4 - j) + 1 by omega]
                    rcases pair (x := tk s.data.toList [32] c2) with ⟨e1, m1⟩ | ⟨e1, m1⟩
                    · have le1 : e1 ≤ s.size := by have := tk_le m1 (by simpa using hc2); simpa using this
                      have HN1 := Lib.hid (show ∀ e2, nu s.data.toList e1 = (true, e2) → FiN s.data.toList e1 e2 → sn s.data.toList 5 (b + 1) = sn s.data.toList (4 - j) e2 from fun e2 m2 hf => hTi.out.trans (hfi.trans (sn_next m1 m2 hf)))
                      have HA1 := Lib.hid (show ∀ e2, nu s.data.toList e1 = (true, e2) → ¬ FiN s.data.toList e1 e2 → sn s.data.toList 5 (b + 1) = (false, e1, 5) from fun e2 m2 hf => hTi.out.trans (hfi.trans (sn_nan m1 m2 hf)))
                      have HB1 := Lib.hid (show ∀ e2, nu s.data.toList e1 = (false, e2) → sn s.data.toList 5 (b + 1) = (false, e2, 12) from fun e2 m2 => hTi.out.trans (hfi.trans (sn_nu m1 m2)))
                      have M1 := Lib.hid m1
                      clear m1 hfi
                      have tok : True := trivial
                      go_wp2_with (go_at_call 34; have _t := tok; clear tok; refine (wt_ok (w0 := wr) [32] (by decide) hs hc2 hri (But.refl [Q] wr) M1.out).mono ?_; rintro e wj ⟨rfl, hrj, hbj⟩)
                      have tok : True := trivial
                      go_wp2_with (go_at_call 23; have _t := tok; clear tok; refine (nt_any Q e1 s hs le1 _ hrj).mono ?_; rintro e wk ⟨hbk, xx, yy, rfl, hxx, hyy, hway⟩; have HW := Lib.hid hway; clear hway; have hbb := hbj.trans hbk; have bX := hbb.heap hX (by simp; omega); have cX : wk.cell? ⟨w3.heap.size, j, none⟩ = some (cx (l.getD j (0, 0))) := (by rw [cell_of_row wk (w3.heap.size) j _ _ _ bX]; exact arr5_cell l j hlt); have fX : wk.frozen? ⟨w3.heap.size, j, none⟩ = false := blk_free bX)
                      rcases HW.out with ⟨e2, m2, hrk, hi, hf⟩ | ⟨e2, m2, hf, hrk⟩ | ⟨e2, dd, m2, hrk⟩
                      · exact ⟨⟨j + 1, l ++ [(xx, yy)], by omega, by go_num, by simp [hl], (hbi.trans (hbb.weak (by simp; omega))).setCell ⟨w3.heap.size, j, none⟩ (.complex .f64 xx yy) (.inl (by simp)), by rw [blk_set _ _ _ _ _ _ bX, ← hl, show Value.complex .f64 xx yy = cx (xx, yy) from rfl, arr5_step l (xx, yy) (by omega)], .inl ⟨e2, by have := nu_le m2 (by simpa using le1); simpa using this, (Below.heap_setCell wk ⟨w3.heap.size, j, none⟩ (.complex .f64 xx yy) Q (by simp; omega)).trans hrk, Lib.hid (by rw [HN1.out e2 m2 ⟨xx, yy, hxx, hyy, hi, hf⟩, show 5 - (j + 1) = 4 - j by omega]), Lib.hid (by rw [lsT_snoc]; exact hIi.out.trans ((tk_is _ _ _ _ M1.out).trans hi)), Lib.hid (fun p hp => (List.mem_append.1 hp).elim (fun h => hFi2.out p h) (fun h => by rw [List.mem_singleton.1 h]; exact ⟨hxx, hyy, hf⟩))⟩⟩, by simp [kOf]; omega⟩
                      · exact ⟨⟨j + 1, l ++ [(xx, yy)], by omega, by go_num, by simp [hl], (hbi.trans (hbb.weak (by simp; omega))).setCell ⟨w3.heap.size, j, none⟩ (.complex .f64 xx yy) (.inl (by simp)), by rw [blk_set _ _ _ _ _ _ bX, ← hl, show Value.complex .f64 xx yy = cx (xx, yy) from rfl, arr5_step l (xx, yy) (by omega)], .inr ⟨e1, 5, e2, .inr (.inr rfl), (Below.heap_setCell wk ⟨w3.heap.size, j, none⟩ (.complex .f64 xx yy) Q (by simp; omega)).trans hrk, Lib.hid (HA1.out e2 m2 hf)⟩⟩, by simp [kOf]; omega⟩
                      · exact ⟨⟨j + 1, l ++ [(xx, yy)], by omega, by go_num, by simp [hl], (hbi.trans (hbb.weak (by simp; omega))).setCell ⟨w3.heap.size, j, none⟩ (.complex .f64 xx yy) (.inl (by simp)), by rw [blk_set _ _ _ _ _ _ bX, ← hl, show Value.complex .f64 xx yy = cx (xx, yy) from rfl, arr5_step l (xx, yy) (by omega)], .inr ⟨e2, 12, dd, .inl rfl, (Below.heap_setCell wk ⟨w3.heap.size, j, none⟩ (.complex .f64 xx yy) Q (by simp; omega)).trans hrk, Lib.hid (HB1.out e2 m2)⟩⟩, by simp [kOf]; omega⟩
                    · have HE1 := Lib.hid (hTi.out.trans (hfi.trans (sn_sp m1)))
                      have M1 := Lib.hid m1
                      clear m1 hfi
                      have tok : True := trivial
                      go_wp2_with (go_at_call 34; have _t := tok; clear tok; refine (wt_no (w0 := wr) [32] (by decide) hs hc2 hri (But.refl [Q] wr) M1.out).mono ?_; rintro e wj ⟨rfl, hrj, hbj⟩)
                      have tok : True := trivial
                      go_wp2_with (go_at_call 23; have _t := tok; clear tok; refine (nt_o rfl rfl hrj hbj).mono ?_; rintro e wk ⟨rfl, hrk, hbb⟩; have bX := hbb.heap hX (by simp; omega); have cX : wk.cell? ⟨w3.heap.size, j, none⟩ = some (cx (l.getD j (0, 0))) := (by rw [cell_of_row wk (w3.heap.size) j _ _ _ bX]; exact arr5_cell l j hlt); have fX : wk.frozen? ⟨w3.heap.size, j, none⟩ = false := blk_free bX)
                      exact ⟨⟨j + 1, l ++ [(0, 0)], by omega, by go_num, by simp [hl], (hbi.trans (hbb.weak (by simp; omega))).setCell ⟨w3.heap.size, j, none⟩ (.complex .f64 0 0) (.inl (by simp)), by rw [blk_set _ _ _ _ _ _ bX, ← hl, show Value.complex .f64 0 0 = cx (0, 0) from rfl, arr5_step l (0, 0) (by omega)], .inr ⟨e1, 12, e1, .inl rfl, (Below.heap_setCell wk ⟨w3.heap.size, j, none⟩ (.complex .f64 0 0) Q (by simp; omega)).trans hrk, HE1⟩⟩, by simp [kOf]; omega⟩
                  · obtain rfl : j = 5 := by omega
                    have HE := Lib.hid (HN.out c2 0 (hTi.out.trans sn_0))
                    obtain ⟨p0, p1, p2, p3, p4, rfl⟩ := five l hl
                    have hFi := hbi.heap hFV (by simp; omega)
                    have cFi : wr.cell? ⟨F, 1, none⟩ = some (.slice p ss.length k) := by rw [cell_of_row wr F 1 _ _ _ hFi]; rfl
                    have hosi := hosV.keep hbi (fun g hg => by have h1 := hosV.block g hg; have h2 := hosl g hg; simp; omega)
                    have hbWi : But [Q, F] W wr := hbWV.then hbi (by simp; omega)
                    have hsi := hbWi.size
                    have a0 : wr.cell? ⟨w3.heap.size, 0, none⟩ = some (.complex .f64 p0.1 p0.2) := by rw [cell_of_row wr _ 0 _ _ _ hX]; rfl
                    have a1 : wr.cell? ⟨w3.heap.size, 1, none⟩ = some (.complex .f64 p1.1 p1.2) := by rw [cell_of_row wr _ 1 _ _ _ hX]; rfl
                    have a2 : wr.cell? ⟨w3.heap.size, 2, none⟩ = some (.complex .f64 p2.1 p2.2) := by rw [cell_of_row wr _ 2 _ _ _ hX]; rfl
                    have a3 : wr.cell? ⟨w3.heap.size, 3, none⟩ = some (.complex .f64 p3.1 p3.2) := by rw [cell_of_row wr _ 3 _ _ _ hX]; rfl
                    have a4 : wr.cell? ⟨w3.heap.size, 4, none⟩ = some (.complex .f64 p4.1 p4.2) := by rw [cell_of_row wr _ 4 _ _ _ hX]; rfl
                    have t1i : ¬ ((5 : Int) < 5) := by omega
                    go_wp2_with (at_builtin; refine wpList_append_os rfl _ _ rfl W.heap.size _ ss rfl (hosi.alloc (.cells (arr5 [p0, p1, p2, p3, p4]) 75)) ⟨wr.heap.size, 0, none⟩ 1 [p0, p1, p2, p3, p4] rfl rfl (five_cells wr [p0, p1, p2, p3, p4] rfl) (by omega) (by simp; omega) ?_; intro v' w5 hos5 hgr5; have hbg : But (Value.slice p ss.length k).ownBlock.toList wr w5 := ((But.refl _ wr).alloc _).grown hgr5 (fun g hg => .inl (Option.mem_toList.2 (Option.mem_def.2 hg))); have hnq : ∀ q, q < W.heap.size → q ∉ (Value.slice p ss.length k).ownBlock.toList := (fun q hq h => by have := hosi.block q (Option.mem_def.1 (Option.mem_toList.1 h)); omega); have hF5 := hbg.heap hFi (hnq F hFW); have cF5 : w5.cell? ⟨F, 1, none⟩ = some (.slice p ss.length k) := (by rw [cell_of_row w5 F 1 _ _ _ hF5]; rfl); have fF5 : w5.frozen? ⟨F, 1, none⟩ = false := blk_free hF5; have hr5 := hri.keep hbg (hnq Q hQW); have hb5W : But [Q, F] W w5 := hbWi.then hbg (fun q hq h => absurd h (hnq q hq)); obtain ⟨p5, n5, k5, rfl⟩ := hos5.slice)
                    have hrF := fun c f q (h : Rr w5 Q s c f q) => (show Rr (w5.setCell ⟨F, 1, none⟩ (.slice p5 n5 k5)) Q s c f q from (Below.heap_setCell w5 ⟨F, 1, none⟩ (.slice p5 n5 k5) Q hQF).trans h)
                    refine ⟨⟨ss ++ [[p0, p1, p2, p3, p4]], p5, n5, k5, by rw [List.length_append, List.length_singleton]; omega, hos5.keep ((But.refl [F] w5).setCell ⟨F, 1, none⟩ (.slice p5 n5 k5) (.inl (by simp))) (fun g hg => by have := hos5.block g hg; simp; omega), blk_set _ _ _ _ _ _ hF5, hb5W.setCell _ _ (.inl (by simp)), .inl ⟨c2, by rw [List.length_append, List.length_singleton]; have := H16.out; omega, hc2, hrF _ _ _ hr5, Lib.hid (by rw [List.length_append, List.length_singleton, show 18 - (ss.length + 1) = 17 - ss.length by omega]; exact HE.out), Lib.hid (by rw [scT_snoc]; exact hI.out.trans ((tk_is _ _ _ _ K1.out).trans ((tk_is _ _ _ _ K2.out).trans hIi.out))), Lib.hid (fun z hz => (List.mem_append.1 hz).elim (fun h => hS.out z h) (fun h => by rw [List.mem_singleton.1 h]; exact ⟨rfl, hFi2.out⟩))⟩⟩, ?_⟩
                    · rw [mq_good (hrF _ _ _ hr5), mq_good HR.out]
                      have h1 := (tk_is _ _ _ _ K1.out).1
                      have h2 := hIi.out.1
                      simp only [List.length_singleton] at h1
                      omega
                · have f20 : ((f2 : Int) == 0) = false := err_eq hf2
                  have f21 : ((f2 : Int) != 0) = true := err_ne hf2
                  have HF2 := Lib.hid hf2
                  clear hf2
                  by_cases hlt : j < 5
                  · have t1i : (j : Int) < 5 := by omega
                    obtain ⟨y0, y1, y2, y3, yf⟩ := hri.cells
                    clear yf
                    have tok : True := trivial
                    go_wp2_with (go_at_call 34; have _t := tok; clear tok; refine (wt_g f20 [32] (by decide) hri (But.refl [Q] wr)).mono ?_; rintro e wj ⟨rfl, hrj, hbj⟩)
                    have tok : True := trivial
                    go_wp2_with (go_at_call 23; have _t := tok; clear tok; refine (nt_o f20 f21 hrj hbj).mono ?_; rintro e wk ⟨rfl, hrk, hbb⟩; have bX := hbb.heap hX (by simp; omega); have cX : wk.cell? ⟨w3.heap.size, j, none⟩ = some (cx (l.getD j (0, 0))) := (by rw [cell_of_row wk (w3.heap.size) j _ _ _ bX]; exact arr5_cell l j hlt); have fX : wk.frozen? ⟨w3.heap.size, j, none⟩ = false := blk_free bX)
                    exact ⟨⟨j + 1, l ++ [(0, 0)], by omega, by go_num, by simp [hl], (hbi.trans (hbb.weak (by simp; omega))).setCell ⟨w3.heap.size, j, none⟩ (.complex .f64 0 0) (.inl (by simp)), by rw [blk_set _ _ _ _ _ _ bX, ← hl, show Value.complex .f64 0 0 = cx (0, 0) from rfl, arr5_step l (0, 0) (by omega)], .inr ⟨b2, f2, d2, HF2.out, (Below.heap_setCell wk ⟨w3.heap.size, j, none⟩ (.complex .f64 0 0) Q (by simp; omega)).trans hrk, hEi⟩⟩, by simp [kOf]; omega⟩
                  · obtain rfl : j = 5 := by omega
                    have HE := Lib.hid (HB.out b2 f2 hEi.out)
                    obtain ⟨p0, p1, p2, p3, p4, rfl⟩ := five l hl
                    have hFi := hbi.heap hFV (by simp; omega)
                    have cFi : wr.cell? ⟨F, 1, none⟩ = some (.slice p ss.length k) := by rw [cell_of_row wr F 1 _ _ _ hFi]; rfl
                    have hosi := hosV.keep hbi (fun g hg => by have h1 := hosV.block g hg; have h2 := hosl g hg; simp; omega)
                    have hbWi : But [Q, F] W wr := hbWV.then hbi (by simp; omega)
                    have hsi := hbWi.size
                    have a0 : wr.cell? ⟨w3.heap.size, 0, none⟩ = some (.complex .f64 p0.1 p0.2) := by rw [cell_of_row wr _ 0 _ _ _ hX]; rfl
                    have a1 : wr.cell? ⟨w3.heap.size, 1, none⟩ = some (.complex .f64 p1.1 p1.2) := by rw [cell_of_row wr _ 1 _ _ _ hX]; rfl
                    have a2 : wr.cell? ⟨w3.heap.size, 2, none⟩ = some (.complex .f64 p2.1 p2.2) := by rw [cell_of_row wr _ 2 _ _ _ hX]; rfl
                    have a3 : wr.cell? ⟨w3.heap.size, 3, none⟩ = some (.complex .f64 p3.1 p3.2) := by rw [cell_of_row wr _ 3 _ _ _ hX]; rfl
                    have a4 : wr.cell? ⟨w3.heap.size, 4, none⟩ = some (.complex .f64 p4.1 p4.2) := by rw [cell_of_row wr _ 4 _ _ _ hX]; rfl
                    have t1i : ¬ ((5 : Int) < 5) := by omega
                    go_wp2_with (at_builtin; refine wpList_append_os rfl _ _ rfl W.heap.size _ ss rfl (hosi.alloc (.cells (arr5 [p0, p1, p2, p3, p4]) 75)) ⟨wr.heap.size, 0, none⟩ 1 [p0, p1, p2, p3, p4] rfl rfl (five_cells wr [p0, p1, p2, p3, p4] rfl) (by omega) (by simp; omega) ?_; intro v' w5 hos5 hgr5; have hbg : But (Value.slice p ss.length k).ownBlock.toList wr w5 := ((But.refl _ wr).alloc _).grown hgr5 (fun g hg => .inl (Option.mem_toList.2 (Option.mem_def.2 hg))); have hnq : ∀ q, q < W.heap.size → q ∉ (Value.slice p ss.length k).ownBlock.toList := (fun q hq h => by have := hosi.block q (Option.mem_def.1 (Option.mem_toList.1 h)); omega); have hF5 := hbg.heap hFi (hnq F hFW); have cF5 : w5.cell? ⟨F, 1, none⟩ = some (.slice p ss.length k) := (by rw [cell_of_row w5 F 1 _ _ _ hF5]; rfl); have fF5 : w5.frozen? ⟨F, 1, none⟩ = false := blk_free hF5; have hr5 := hri.keep hbg (hnq Q hQW); have hb5W : But [Q, F] W w5 := hbWi.then hbg (fun q hq h => absurd h (hnq q hq)); obtain ⟨p5, n5, k5, rfl⟩ := hos5.slice)
                    have hrF := fun c f q (h : Rr w5 Q s c f q) => (show Rr (w5.setCell ⟨F, 1, none⟩ (.slice p5 n5 k5)) Q s c f q from (Below.heap_setCell w5 ⟨F, 1, none⟩ (.slice p5 n5 k5) Q hQF).trans h)
                    refine ⟨⟨ss ++ [[p0, p1, p2, p3, p4]], p5, n5, k5, by rw [List.length_append, List.length_singleton]; omega, hos5.keep ((But.refl [F] w5).setCell ⟨F, 1, none⟩ (.slice p5 n5 k5) (.inl (by simp))) (fun g hg => by have := hos5.block g hg; simp; omega), blk_set _ _ _ _ _ _ hF5, hb5W.setCell _ _ (.inl (by simp)), .inr ⟨b2, f2, d2, HF2.out, hrF _ _ _ hr5, HE⟩⟩, ?_⟩
                    · rw [mq_bad (hrF _ _ _ hr5) (f20), mq_good HR.out]; omega
          · have k2 : tk s.data.toList [124] b = (false, b) := by rw [tk, if_neg h124]
            have HE := Lib.hid (hT.out.trans (hfu.trans (so_bar he' k1 (fun h => h124 h.1) k2)))
            have x124 := Lib.hid (show decide (s.data.toList[b]? = some 124) = false from decide_eq_false h124)
            have K1 := Lib.hid k1
            have K2 := Lib.hid k2
            have HR := Lib.hid hr
            clear hr hfu k1 k2
            clear h124
            go_wp2_with fail
            go_quiet (fail)
            have hrq := HR.out.keep ((But.refl [] wr).drewN nq) (by simp)
            have hbq := (But.refl [Q] wr).drewN nq
            have tok : True := trivial
            go_wp2_with (go_at_call 34; have _t := tok; clear tok; refine (wt_ok (w0 := wr) [32] (by decide) hs hc hrq hbq K1.out).mono ?_; rintro e w1 ⟨rfl, hr1, hb1⟩)
            have tok : True := trivial
            go_wp2_with (go_at_call 42; have _t := tok; clear tok; refine (is_c 124 false hr1 hb1 x124.out).mono ?_; rintro e w2 ⟨rfl, hr2, hb2⟩)
            have tok : True := trivial
            go_wp2_with (go_at_call 34; have _t := tok; clear tok; refine (wt_no [124] (by decide) hs l1 hr2 hb2 K2.out).mono ?_; rintro e w3 ⟨rfl, hr3, hb3⟩)
            obtain ⟨V, hV⟩ : ∃ V, V = w3.alloc (.cells #[.complex .f64 0 0, .complex .f64 0 0, .complex .f64 0 0, .complex .f64 0 0, .complex .f64 0 0] 90) := ⟨_, rfl⟩
            have v0 : But [] w3 V := hV ▸ (But.refl [] w3).alloc _
            have vX : V.heap[w3.heap.size]? = some (.cells #[.complex .f64 0 0, .complex .f64 0 0, .complex .f64 0 0, .complex .f64 0 0, .complex .f64 0 0] 90 (0, 0)) := by rw [hV]; show (w3.heap.push _)[_]? = _; exact Array.getElem?_push_size
            have hs3 := hb3.size
            have hsW := hb.size
            have hbV : But [Q] wr V := hb3.trans (v0.weak (by simp))
            have hosV := hos.keep hbV (fun g hg => by have := hos.block g hg; simp; omega)
            have hosl := hos.lt
            have hFV := hbV.heap hF (by simp; omega)
            have hrV := hr3.keep v0 (by simp)
            have hbWV : But [Q, F] W V := hb.trans (hbV.weak (by simp; omega))
            go_wp2_with fail
            rw [← hV]
            clear hV
            go_loopw [58] (fun i wr => ∃ (j : Nat) (l : List (Nat × Nat)), j ≤ 5 ∧ i = .int .i64 (j : Int) ∧ l.length = j ∧ But [Q, w3.heap.size] V wr ∧ wr.heap[w3.heap.size]? = some (.cells (arr5 l) 90 (0, 0)) ∧ Rr wr Q s b 12 b) (fun i _ => 5 - kOf i)
            case atStart => exact ⟨0, [], by omega, rfl, rfl, But.refl _ _, vX, hrV⟩
            case round =>
              obtain ⟨j, l, hj, rfl, hl, hbi, hX, hri⟩ := hrel
              by_cases hlt : j < 5
              · have t1i : (j : Int) < 5 := by omega
                obtain ⟨y0, y1, y2, y3, yf⟩ := hri.cells
                clear yf
                have tok : True := trivial
                go_wp2_with (go_at_call 34; have _t := tok; clear tok; refine (wt_g rfl [32] (by decide) hri (But.refl [Q] wr)).mono ?_; rintro e wj ⟨rfl, hrj, hbj⟩)
                have tok : True := trivial
                go_wp2_with (go_at_call 23; have _t := tok; clear tok; refine (nt_o rfl rfl hrj hbj).mono ?_; rintro e wk ⟨rfl, hrk, hbb⟩; have bX := hbb.heap hX (by simp; omega); have cX : wk.cell? ⟨w3.heap.size, j, none⟩ = some (cx (l.getD j (0, 0))) := (by rw [cell_of_row wk (w3.heap.size) j _ _ _ bX]; exact arr5_cell l j hlt); have fX : wk.frozen? ⟨w3.heap.size, j, none⟩ = false := blk_free bX)
                exact ⟨⟨j + 1, l ++ [(0, 0)], by omega, by go_num, by simp [hl], (hbi.trans (hbb.weak (by simp; omega))).setCell ⟨w3.heap.size, j, none⟩ (.complex .f64 0 0) (.inl (by simp)), by rw [blk_set _ _ _ _ _ _ bX, ← hl, show Value.complex .f64 0 0 = cx (0, 0) from rfl, arr5_step l (0, 0) (by omega)], (Below.heap_setCell wk ⟨w3.heap.size, j, none⟩ (.complex .f64 0 0) Q (by simp; omega)).trans hrk⟩, by simp [kOf]; omega⟩
              · obtain rfl : j = 5 := by omega
                obtain ⟨p0, p1, p2, p3, p4, rfl⟩ := five l hl
                have hFi := hbi.heap hFV (by simp; omega)
                have cFi : wr.cell? ⟨F, 1, none⟩ = some (.slice p ss.length k) := by rw [cell_of_row wr F 1 _ _ _ hFi]; rfl
                have hosi := hosV.keep hbi (fun g hg => by have h1 := hosV.block g hg; have h2 := hosl g hg; simp; omega)
                have hbWi : But [Q, F] W wr := hbWV.then hbi (by simp; omega)
                have hsi := hbWi.size
                have a0 : wr.cell? ⟨w3.heap.size, 0, none⟩ = some (.complex .f64 p0.1 p0.2) := by rw [cell_of_row wr _ 0 _ _ _ hX]; rfl
                have a1 : wr.cell? ⟨w3.heap.size, 1, none⟩ = some (.complex .f64 p1.1 p1.2) := by rw [cell_of_row wr _ 1 _ _ _ hX]; rfl
                have a2 : wr.cell? ⟨w3.heap.size, 2, none⟩ = some (.complex .f64 p2.1 p2.2) := by rw [cell_of_row wr _ 2 _ _ _ hX]; rfl
                have a3 : wr.cell? ⟨w3.heap.size, 3, none⟩ = some (.complex .f64 p3.1 p3.2) := by rw [cell_of_row wr _ 3 _ _ _ hX]; rfl
                have a4 : wr.cell? ⟨w3.heap.size, 4, none⟩ = some (.complex .f64 p4.1 p4.2) := by rw [cell_of_row wr _ 4 _ _ _ hX]; rfl
                have t1i : ¬ ((5 : Int) < 5) := by omega
                go_wp2_with (at_builtin; refine wpList_append_os rfl _ _ rfl W.heap.size _ ss rfl (hosi.alloc (.cells (arr5 [p0, p1, p2, p3, p4]) 75)) ⟨wr.heap.size, 0, none⟩ 1 [p0, p1, p2, p3, p4] rfl rfl (five_cells wr [p0, p1, p2, p3, p4] rfl) (by omega) (by simp; omega) ?_; intro v' w5 hos5 hgr5; have hbg : But (Value.slice p ss.length k).ownBlock.toList wr w5 := ((But.refl _ wr).alloc _).grown hgr5 (fun g hg => .inl (Option.mem_toList.2 (Option.mem_def.2 hg))); have hnq : ∀ q, q < W.heap.size → q ∉ (Value.slice p ss.length k).ownBlock.toList := (fun q hq h => by have := hosi.block q (Option.mem_def.1 (Option.mem_toList.1 h)); omega); have hF5 := hbg.heap hFi (hnq F hFW); have cF5 : w5.cell? ⟨F, 1, none⟩ = some (.slice p ss.length k) := (by rw [cell_of_row w5 F 1 _ _ _ hF5]; rfl); have fF5 : w5.frozen? ⟨F, 1, none⟩ = false := blk_free hF5; have hr5 := hri.keep hbg (hnq Q hQW); have hb5W : But [Q, F] W w5 := hbWi.then hbg (fun q hq h => absurd h (hnq q hq)); obtain ⟨p5, n5, k5, rfl⟩ := hos5.slice)
                have hrF := fun c f q (h : Rr w5 Q s c f q) => (show Rr (w5.setCell ⟨F, 1, none⟩ (.slice p5 n5 k5)) Q s c f q from (Below.heap_setCell w5 ⟨F, 1, none⟩ (.slice p5 n5 k5) Q hQF).trans h)
                refine ⟨⟨ss ++ [[p0, p1, p2, p3, p4]], p5, n5, k5, by rw [List.length_append, List.length_singleton]; omega, hos5.keep ((But.refl [F] w5).setCell ⟨F, 1, none⟩ (.slice p5 n5 k5) (.inl (by simp))) (fun g hg => by have := hos5.block g hg; simp; omega), blk_set _ _ _ _ _ _ hF5, hb5W.setCell _ _ (.inl (by simp)), .inr ⟨b, 12, b, .inl rfl, hrF _ _ _ hr5, HE⟩⟩, ?_⟩
                · rw [mq_bad (hrF _ _ _ hr5) (rfl), mq_good HR.out]; omega
        · have HE := Lib.hid (hT.out.trans (hfu.trans (so_sp he' k1)))
          have K1 := Lib.hid k1
          have HR := Lib.hid hr
          clear hr hfu k1
          go_wp2_with fail
          go_quiet (fail)
          have hrq := HR.out.keep ((But.refl [] wr).drewN nq) (by simp)
          have hbq := (But.refl [Q] wr).drewN nq
          have tok : True := trivial
          go_wp2_with (go_at_call 34; have _t := tok; clear tok; refine (wt_no (w0 := wr) [32] (by decide) hs hc hrq hbq K1.out).mono ?_; rintro e w1 ⟨rfl, hr1, hb1⟩)
          have tok : True := trivial
          go_wp2_with (go_at_call 42; have _t := tok; clear tok; refine (is_g rfl 124 hr1 hb1).mono ?_; rintro e w2 ⟨rfl, hr2, hb2⟩)
          have tok : True := trivial
          go_wp2_with (go_at_call 34; have _t := tok; clear tok; refine (wt_g rfl [124] (by decide) hr2 hb2).mono ?_; rintro e w3 ⟨rfl, hr3, hb3⟩)
          obtain ⟨V, hV⟩ : ∃ V, V = w3.alloc (.cells #[.complex .f64 0 0, .complex .f64 0 0, .complex .f64 0 0, .complex .f64 0 0, .complex .f64 0 0] 90) := ⟨_, rfl⟩
          have v0 : But [] w3 V := hV ▸ (But.refl [] w3).alloc _
          have vX : V.heap[w3.heap.size]? = some (.cells #[.complex .f64 0 0, .complex .f64 0 0, .complex .f64 0 0, .complex .f64 0 0, .complex .f64 0 0] 90 (0, 0)) := by rw [hV]; show (w3.heap.push _)[_]? = _; exact Array.getElem?_push_size
          have hs3 := hb3.size
          have hsW := hb.size
          have hbV : But [Q] wr V := hb3.trans (v0.weak (by simp))
          have hosV := hos.keep hbV (fun g hg => by have := hos.block g hg; simp; omega)
          have hosl := hos.lt
          have hFV := hbV.heap hF (by simp; omega)
          have hrV := hr3.keep v0 (by simp)
          have hbWV : But [Q, F] W V := hb.trans (hbV.weak (by simp; omega))
          go_wp2_with fail
          rw [← hV]
          clear hV
          go_loopw [58] (fun i wr => ∃ (j : Nat) (l : List (Nat × Nat)), j ≤ 5 ∧ i = .int .i64 (j : Int) ∧ l.length = j ∧ But [Q, w3.heap.size] V wr ∧ wr.heap[w3.heap.size]? = some (.cells (arr5 l) 90 (0, 0)) ∧ Rr wr Q s b 12 b) (fun i _ => 5 - kOf i)
          case atStart => exact ⟨0, [], by omega, rfl, rfl, But.refl _ _, vX, hrV⟩
          case round =>
            obtain ⟨j, l, hj, rfl, hl, hbi, hX, hri⟩ := hrel
            by_cases hlt : j < 5
            · have t1i : (j : Int) < 5 := by omega
              obtain ⟨y0, y1, y2, y3, yf⟩ := hri.cells
              clear yf
              have tok : True := trivial
              go_wp2_with (go_at_call 34; have _t := tok; clear tok; refine (wt_g rfl [32] (by decide) hri (But.refl [Q] wr)).mono ?_; rintro e wj ⟨rfl, hrj, hbj⟩)
              have tok : True := trivial
              go_wp2_with (go_at_call 23; have _t := tok; clear tok; refine (nt_o rfl rfl hrj hbj).mono ?_; rintro e wk ⟨rfl, hrk, hbb⟩; have bX := hbb.heap hX (by simp; omega); have cX : wk.cell? ⟨w3.heap.size, j, none⟩ = some (cx (l.getD j (0, 0))) := (by rw [cell_of_row wk (w3.heap.size) j _ _ _ bX]; exact arr5_cell l j hlt); have fX : wk.frozen? ⟨w3.heap.size, j, none⟩ = false := blk_free bX)
              exact ⟨⟨j + 1, l ++ [(0, 0)], by omega, by go_num, by simp [hl], (hbi.trans (hbb.weak (by simp; omega))).setCell ⟨w3.heap.size, j, none⟩ (.complex .f64 0 0) (.inl (by simp)), by rw [blk_set _ _ _ _ _ _ bX, ← hl, show Value.complex .f64 0 0 = cx (0, 0) from rfl, arr5_step l (0, 0) (by omega)], (Below.heap_setCell wk ⟨w3.heap.size, j, none⟩ (.complex .f64 0 0) Q (by simp; omega)).trans hrk⟩, by simp [kOf]; omega⟩
            · obtain rfl : j = 5 := by omega
              obtain ⟨p0, p1, p2, p3, p4, rfl⟩ := five l hl
              have hFi := hbi.heap hFV (by simp; omega)
              have cFi : wr.cell? ⟨F, 1, none⟩ = some (.slice p ss.length k) := by rw [cell_of_row wr F 1 _ _ _ hFi]; rfl
              have hosi := hosV.keep hbi (fun g hg => by have h1 := hosV.block g hg; have h2 := hosl g hg; simp; omega)
              have hbWi : But [Q, F] W wr := hbWV.then hbi (by simp; omega)
              have hsi := hbWi.size
              have a0 : wr.cell? ⟨w3.heap.size, 0, none⟩ = some (.complex .f64 p0.1 p0.2) := by rw [cell_of_row wr _ 0 _ _ _ hX]; rfl
              have a1 : wr.cell? ⟨w3.heap.size, 1, none⟩ = some (.complex .f64 p1.1 p1.2) := by rw [cell_of_row wr _ 1 _ _ _ hX]; rfl
              have a2 : wr.cell? ⟨w3.heap.size, 2, none⟩ = some (.complex .f64 p2.1 p2.2) := by rw [cell_of_row wr _ 2 _ _ _ hX]; rfl
              have a3 : wr.cell? ⟨w3.heap.size, 3, none⟩ = some (.complex .f64 p3.1 p3.2) := by rw [cell_of_row wr _ 3 _ _ _ hX]; rfl
              have a4 : wr.cell? ⟨w3.heap.size, 4, none⟩ = some (.complex .f64 p4.1 p4.2) := by rw [cell_of_row wr _ 4 _ _ _ hX]; rfl
              have t1i : ¬ ((5 : Int) < 5) := by omega
              go_wp2_with (at_builtin; refine wpList_append_os rfl _ _ rfl W.heap.size _ ss rfl (hosi.alloc (.cells (arr5 [p0, p1, p2, p3, p4]) 75)) ⟨wr.heap.size, 0, none⟩ 1 [p0, p1, p2, p3, p4] rfl rfl (five_cells wr [p0, p1, p2, p3, p4] rfl) (by omega) (by simp; omega) ?_; intro v' w5 hos5 hgr5; have hbg : But (Value.slice p ss.length k).ownBlock.toList wr w5 := ((But.refl _ wr).alloc _).grown hgr5 (fun g hg => .inl (Option.mem_toList.2 (Option.mem_def.2 hg))); have hnq : ∀ q, q < W.heap.size → q ∉ (Value.slice p ss.length k).ownBlock.toList := (fun q hq h => by have := hosi.block q (Option.mem_def.1 (Option.mem_toList.1 h)); omega); have hF5 := hbg.heap hFi (hnq F hFW); have cF5 : w5.cell? ⟨F, 1, none⟩ = some (.slice p ss.length k) := (by rw [cell_of_row w5 F 1 _ _ _ hF5]; rfl); have fF5 : w5.frozen? ⟨F, 1, none⟩ = false := blk_free hF5; have hr5 := hri.keep hbg (hnq Q hQW); have hb5W : But [Q, F] W w5 := hbWi.then hbg (fun q hq h => absurd h (hnq q hq)); obtain ⟨p5, n5, k5, rfl⟩ := hos5.slice)
              have hrF := fun c f q (h : Rr w5 Q s c f q) => (show Rr (w5.setCell ⟨F, 1, none⟩ (.slice p5 n5 k5)) Q s c f q from (Below.heap_setCell w5 ⟨F, 1, none⟩ (.slice p5 n5 k5) Q hQF).trans h)
              refine ⟨⟨ss ++ [[p0, p1, p2, p3, p4]], p5, n5, k5, by rw [List.length_append, List.length_singleton]; omega, hos5.keep ((But.refl [F] w5).setCell ⟨F, 1, none⟩ (.slice p5 n5 k5) (.inl (by simp))) (fun g hg => by have := hos5.block g hg; simp; omega), blk_set _ _ _ _ _ _ hF5, hb5W.setCell _ _ (.inl (by simp)), .inr ⟨b, 12, b, .inl rfl, hrF _ _ _ hr5, HE⟩⟩, ?_⟩
              · rw [mq_bad (hrF _ _ _ hr5) (rfl), mq_good HR.out]; omega
      · have t1 : decide ((c : Int) < (s.size : Int)) = false := decide_eq_false (by omega)
        have hcs : c = s.size := by omega
        have HE := Lib.hid (hT.out.trans (show so s.data.toList (18 - ss.length) c ss.length = (true, c, 0) by rw [show 18 - ss.length = (17 - ss.length) + 1 by omega]; exact so_end (by simpa using he)))
        have HR := Lib.hid hr
        have HCS := Lib.hid hcs
        clear hr hcs
        go_wp2_with fail
        go_quiet (fail)
        have hrq := HR.out.keep ((But.refl [] wr).drewN nq) (by simp)
        have hbq := (But.refl [] wr).drewN nq
        have hFq := hbq.heap hF (by simp)
        have hbWq := hb.trans (hbq.weak (by simp))
        have tok : True := trivial
        go_wp2_with (go_at_call 24; have _t := tok; clear tok; refine (rend_full _ _ _ s HCS.out _ hrq).mono ?_; rintro e w6 ⟨rfl, hb6⟩; have hbF6 := hbWq.then (qs := [Q, F]) hb6 (by simp); have zR := hbF6.heap hA (by simp; omega); have z0 : w6.cell? ⟨A, 0, none⟩ = some (.complex .f64 0 0) := (by rw [cell_of_row w6 _ 0 _ _ _ zR]; rfl); have z1 : w6.cell? ⟨A, 1, none⟩ = some (.slice none 0 0) := (by rw [cell_of_row w6 _ 1 _ _ _ zR]; rfl); have bF6 := hb6.heap hFq (by simp); have c0 : w6.cell? ⟨F, 0, none⟩ = some (.complex .f64 x y) := (by rw [cell_of_row w6 _ 0 _ _ _ bF6]; rfl); have c1 : w6.cell? ⟨F, 1, none⟩ = some (.slice p ss.length k) := (by rw [cell_of_row w6 _ 1 _ _ _ bF6]; rfl); have g0 : (w6).frozen? ⟨A, 0, none⟩ = false := blk_free zR; have s0 := blk_set (w6) A 0 _ 40 (.complex .f64 x y) zR; have g1 : ((w6).setCell ⟨A, 0, none⟩ (.complex .f64 x y)).frozen? ⟨A, 1, none⟩ = false := blk_free s0; have s1 := blk_set ((w6).setCell ⟨A, 0, none⟩ (.complex .f64 x y)) A 1 _ 40 (.slice p ss.length k) s0)
        refine bodyPost_ret (v := .tuple #[.agg #[.complex .f64 x y, .slice p ss.length k], .int .i64 0, .int .i64 0]) ?_ rfl ?_
        · rw [results_cell_tmp2 (fn := Tryz.f17) rfl]
          simp only [List.getElem_toArray, Array.getD]
          simp [asAddr, Sem.run_pure, Result.andThen]
          rw [run_loadVar_row _ A 40 40 _ _ _ s1 Tryz.underlying40 rfl (by kernel_rfl)]
          rfl
        · have hB1 := ((But.refl [A] w6).setCell ⟨A, 0, none⟩ (.complex .f64 x y) (.inl (by simp))).setCell ⟨A, 1, none⟩ (.slice p ss.length k) (.inl (by simp))
          have hbA : But [A, Q, F] W _ := (hbF6.weak (qs' := [A, Q, F]) (by simp; omega)).trans (hB1.weak (by simp; omega))
          have hos6 := (hos.keep hbq (by simp)).keep ((hb6.weak (qs' := [A]) (by simp)).trans hB1) (fun g hg => by have := hos.block g hg; simp; omega)
          exact hfin _ _ ⟨hbA, .inl ⟨c, ss, p, _, k, HE.out, rfl, hos6, hI.out, hl16, hS.out⟩⟩
    · obtain ⟨z0, z1, z2, z3, zf⟩ := hr.cells
      have f0 : ((f : Int) == 0) = false := err_eq hf
      have HF := Lib.hid hf
      have HR := Lib.hid hr
      clear hr zf hf
      go_wp2_with fail
      go_quiet (fail)
      have hrq := HR.out.keep ((But.refl [] wr).drewN nq) (by simp)
      have hbq := (But.refl [] wr).drewN nq
      have hbWq := hb.trans (hbq.weak (by simp))
      have tok : True := trivial
      go_wp2_with (go_at_call 24; have _t := tok; clear tok; refine (rend_off _ _ _ f f0 s _ hrq).mono ?_; rintro e w6 ⟨rfl, hb6⟩; have hbF6 := hbWq.then (qs := [Q, F]) hb6 (by simp); have zR := hbF6.heap hA (by simp; omega); have z0 : w6.cell? ⟨A, 0, none⟩ = some (.complex .f64 0 0) := (by rw [cell_of_row w6 _ 0 _ _ _ zR]; rfl); have z1 : w6.cell? ⟨A, 1, none⟩ = some (.slice none 0 0) := (by rw [cell_of_row w6 _ 1 _ _ _ zR]; rfl); have g0 : (w6).frozen? ⟨A, 0, none⟩ = false := blk_free zR; have s0 := blk_set (w6) A 0 _ 40 (.complex .f64 0 0) zR; have g1 : ((w6).setCell ⟨A, 0, none⟩ (.complex .f64 0 0)).frozen? ⟨A, 1, none⟩ = false := blk_free s0; have s1 := blk_set ((w6).setCell ⟨A, 0, none⟩ (.complex .f64 0 0)) A 1 _ 40 (.slice none 0 0) s0)
      refine bodyPost_ret (v := .tuple #[.agg #[.complex .f64 0 0, .slice none 0 0], .int .i64 (b : Int), .int .i64 (f : Int)]) ?_ rfl ?_
      · rw [results_cell_tmp2 (fn := Tryz.f17) rfl]
        simp only [List.getElem_toArray, Array.getD]
        simp [asAddr, Sem.run_pure, Result.andThen]
        rw [run_loadVar_row _ A 40 40 _ _ _ s1 Tryz.underlying40 rfl (by kernel_rfl)]
        rfl
      · have hB1 := ((But.refl [A] w6).setCell ⟨A, 0, none⟩ (.complex .f64 0 0) (.inl (by simp))).setCell ⟨A, 1, none⟩ (.slice none 0 0) (.inl (by simp))
        have hbA : But [A, Q, F] W _ := (hbF6.weak (qs' := [A, Q, F]) (by simp; omega)).trans (hB1.weak (by simp; omega))
        exact hfin _ _ ⟨hbA, .inr ⟨b, f, hE.out, rfl⟩⟩
end Go.Proofs.YtnghppgpdeghfaaGreatDoor
