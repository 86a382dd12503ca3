/- The closure of ReadFilter. -/
import Derived.Test.YtnghppgpdeghfaaGreatDoorZf24
namespace Go.Proofs.YtnghppgpdeghfaaGreatDoor
open Go.RowKit Go.Proofs.YtnghppgpdeghfaaGreatDoor.Fl Go.Proofs.YtnghppgpdeghfaaGreatDoor.Pt Go.Proofs.YtnghppgpdeghfaaGreatDoor.Tx

section
variable {R a c f : Nat} {s : ByteArray} {W : World}
theorem se_ok (hs : s.size ≤ 65536) (ha : a ≤ s.size) (hR : 15 ≤ R) (h : Rdr W R s a) (hg : Gl W) (k : sn s.data.toList 5 a = (true, c, f)) : Calls Tryz.prog 33 #[.pointer (some ⟨R, 0, none⟩)] W fun e w' => ∃ p0 p1 p2 p3 p4 : Nat × Nat, e = .returned (.agg #[.complex .f64 p0.1 p0.2, .complex .f64 p1.1 p1.2, .complex .f64 p2.1 p2.2, .complex .f64 p3.1 p3.2, .complex .f64 p4.1 p4.2]) ∧ (Sc5 [p0, p1, p2, p3, p4] ∧ Is s.data.toList a (lsT [p0, p1, p2, p3, p4]) c) ∧ Rdr w' R s c ∧ But [R] W w' := by
  refine (section_any R a s hs ha hR W h hg).mono ?_
  rintro e w' ⟨h1, ⟨l, d, h2, h3, h4, h5, h6⟩ | ⟨b, g, h2, h3⟩⟩
  · rw [k] at h2; cases h2
    obtain ⟨p0, p1, p2, p3, p4, rfl⟩ := five l h6.1
    exact ⟨p0, p1, p2, p3, p4, h3, ⟨h6, h5⟩, h4, h1⟩
  · rw [k] at h2; cases h2
theorem se_no (hs : s.size ≤ 65536) (ha : a ≤ s.size) (hR : 15 ≤ R) (h : Rdr W R s a) (hg : Gl W) (k : sn s.data.toList 5 a = (false, c, f)) : Calls Tryz.prog 33 #[.pointer (some ⟨R, 0, none⟩)] W fun e w' => e = Fa c f ∧ But [R] W w' := by
  refine (section_any R a s hs ha hR W h hg).mono ?_
  rintro e w' ⟨h1, ⟨l, d, h2, h3, h4, h5, h6⟩ | ⟨b, g, h2, h3⟩⟩
  · rw [k] at h2; cases h2
  · rw [k] at h2; cases h2
    exact ⟨h3, h1⟩
end
/-- What the closure answers: behind its beginning, and from it. -/
def FlW (R C a x y : Nat) (s : ByteArray) (W : World) (e : Ending) (w' : World) : Prop := But [R, C] W w' ∧ ((e = .returned (.tuple #[]) ∧ ∃ c ss p n k, so s.data.toList 18 a 0 = (true, c, 0) ∧ Rdr w' R s c ∧ w'.heap[C]? = some (.cells #[.complex .f64 x y, .slice p n k] 40 (0, 0)) ∧ OS w' W.heap.size (.slice p n k) ss ∧ Is s.data.toList a (scT ss) c ∧ ss.length ≤ 16 ∧ ∀ z ∈ ss, Sc5 z) ∨ (∃ b f : Nat, so s.data.toList 18 a 0 = (false, b, f) ∧ e = Fa b f))
def FcP (R C a b0 : Nat) (s : ByteArray) (W : World) (e : Ending) (w' : World) : Prop := But [R, C] W w' ∧ ((e = .returned (.tuple #[]) ∧ ∃ x y c ss p n k, (x < 18446744073709551616 ∧ y < 18446744073709551616 ∧ Is s.data.toList b0 (num x y) a ∧ finB x y = true) ∧ so s.data.toList 18 a 0 = (true, c, 0) ∧ Rdr w' R s c ∧ w'.heap[C]? = some (.cells #[.complex .f64 x y, .slice p n k] 40 (0, 0)) ∧ OS w' W.heap.size (.slice p n k) ss ∧ Is s.data.toList a (scT ss) c ∧ ss.length ≤ 16 ∧ ∀ z ∈ ss, Sc5 z) ∨ (∃ b f : Nat, so s.data.toList 18 a 0 = (false, b, f) ∧ e = Fa b f))
set_option linter.unusedSimpArgs false in
set_option maxRecDepth 100000 in
set_option maxHeartbeats 4000000 in
theorem flt1_go (R C : Nat) (s : ByteArray) (hs : s.size ≤ 65536) (hR : 15 ≤ R) (hC15 : 15 ≤ C) (hn : R ≠ C) (W0 : World) (h : Rdr W0 R s 0) (hg : Gl W0) (hC0 : W0.heap[C]? = some (.cells #[.complex .f64 0 0, .slice none 0 0] 40 (0, 0))) (b0 a : Nat) (k1 : tk s.data.toList fltT 0 = (true, b0)) (k2 : nu s.data.toList b0 = (true, a)) (k3 : FiN s.data.toList b0 a) :
    Calls Tryz.prog 31 #[.pointer (some ⟨R, 0, none⟩), .pointer (some ⟨C, 0, none⟩)] W0 (FcP R C a b0 s W0) := by
  have hCW0 : C < W0.heap.size := (Array.getElem?_eq_some_iff.1 hC0).1
  have hRW0 : R < W0.heap.size := (Array.getElem?_eq_some_iff.1 h).1
  have l0 : b0 ≤ s.size := by have := tk_le k1 (Nat.zero_le _); simpa using this
  have la : a ≤ s.size := by have := nu_le k2 (by simpa using l0); simpa using this
  have K1 := Lib.hid k1
  have K2 := Lib.hid k2
  have K3 := Lib.hid k3
  clear k1 k2 k3
  unfold fltT at K1
  go_enter Tryz.func31, Tryz.ntmps31
  have tok : True := trivial
  go_wp2_with (go_at_call 28; have _t := tok; clear tok; refine (take_ok (w0 := W0) [102, 105, 108, 116, 101, 114, 32] (by decide) (by omega) (Nat.zero_le _) h (But.refl _ _) K1.out).mono ?_; rintro e w1 ⟨rfl, hr1, hb1⟩; have hg1 := hg.keep hb1 (by simpa using hR))
  have tok : True := trivial
  go_wp2_with (go_at_call 29; have _t := tok; clear tok; refine (fi_ok hs l0 hR hr1 hg1 K2.out K3.out).mono ?_; rintro e w2 ⟨x, y, rfl, hxy, hr2, hb2⟩; have HXY := Lib.hid hxy; clear hxy; have bC := (hb1.trans hb2).heap hC0 (by simp; omega); have cC : w2.cell? ⟨C, 0, none⟩ = some (.complex .f64 0 0) := (by rw [cell_of_row w2 C 0 _ _ _ bC]; rfl); have fC : w2.frozen? ⟨C, 0, none⟩ = false := blk_free bC)
  obtain ⟨W, hW⟩ : ∃ W, W = w2.setCell ⟨C, 0, none⟩ (.complex .f64 x y) := ⟨_, rfl⟩
  have hrW : Rdr W R s a := hW ▸ (Below.heap_setCell w2 ⟨C, 0, none⟩ (.complex .f64 x y) R hn).trans hr2
  have hCWr : W.heap[C]? = some (.cells #[.complex .f64 x y, .slice none 0 0] 40 (0, 0)) := hW ▸ blk_set _ _ _ _ _ _ bC
  have hb0W : But [R, C] W0 W := hW ▸ ((hb1.trans hb2).weak (by simp; omega)).setCell _ _ (.inl (by simp))
  have HG := hg.keep hb0W (by simp; omega)
  have hCW : C < W.heap.size := Nat.lt_of_lt_of_le hCW0 hb0W.size
  have hRW : R < W.heap.size := Nat.lt_of_lt_of_le hRW0 hb0W.size
  have hfin : ∀ e w', FlW R C a x y s W e w' → FcP R C a b0 s W0 e w' := fun e w' h => ⟨hb0W.trans h.1, h.2.imp (fun ⟨h1, c, ss, p, n, k, h2, h3, h4, h5, h6⟩ => ⟨h1, x, y, c, ss, p, n, k, HXY.out, h2, h3, h4, h5.low hb0W.size, h6⟩) id⟩
  clear h hg hC0 hr1 hr2 hb1 hb2 bC cC fC hg1
  go_wp2_with fail
  try rw [← hW]
  clear hW
  go_loopw [] (fun wr => ∃ (ss : Secs) (c : Nat) (p : Option Addr) (n k : Nat), ss.length ≤ 16 ∧ c ≤ s.size ∧ Rdr wr R s c ∧ But [R, C] W wr ∧ wr.heap[C]? = some (.cells #[.complex .f64 x y, .slice p n k] 40 (0, 0)) ∧ OS wr W.heap.size (.slice p n k) ss ∧ Hid (so s.data.toList 18 a 0 = so s.data.toList (18 - ss.length) c ss.length) ∧ Hid (Is s.data.toList a (scT ss) c) ∧ Hid (∀ z ∈ ss, Sc5 z)) (fun wr => s.size - atOf R wr)
  case atStart => exact ⟨[], a, none, 0, 0, by simp, la, hrW, But.refl _ _, hCWr, World.ownsRow_nil W _ _ _, Lib.hid rfl, Lib.hid (Is.nil _ _), Lib.hid (by simp)⟩
  case round =>
    obtain ⟨ss, c, p, n, k, hl16, hc, hr, hb, hC, hos, hT, hI, hS⟩ := hrel
    have hgr := HG.keep hb (by simp; omega)
    have hnl := hos.len
    subst hnl
    obtain ⟨z0, z1, zz⟩ := hr.cells
    by_cases he : c < s.size
    · have he' : c < s.data.toList.length := by simpa using he
      have t1 : decide ((c : Int) < (s.size : Int)) = true := decide_eq_true (by omega)
      have hfu : so s.data.toList (18 - ss.length) c ss.length = so s.data.toList ((17 - ss.length) + 1) c ss.length := by rw [show 18 - ss.length = (17 - ss.length) + 1 by omega]
      rcases pair (x := tk s.data.toList [32] c) with ⟨b, k1⟩ | ⟨b, k1⟩
      · have l1 : b ≤ s.size := by have := tk_le k1 (by simpa using hc); simpa using this
        by_cases h124 : s.data.toList[b]? = some 124
        · by_cases h16 : ss.length = 16
          · have HE := Lib.hid (hT.out.trans (hfu.trans (so_full he' k1 ⟨h124, h16⟩)))
            have q16 : ((ss.length : Int) == 16) = true := by simp; omega
            have x124 := Lib.hid (show decide (s.data.toList[b]? = some 124) = true from decide_eq_true h124)
            have K1 := Lib.hid k1
            have HR := Lib.hid hr
            clear hr hfu k1
            clear h124 h16
            go_wp2_with fail
            go_quiet (fail)
            have hrq := HR.out.keep ((But.refl [] wr).drewN nq) (by simp)
            have hbq := (But.refl [R] wr).drewN nq
            have tok : True := trivial
            go_wp2_with (go_at_call 28; have _t := tok; clear tok; refine (take_ok (w0 := wr) [32] (by decide) (by omega) hc hrq hbq K1.out).mono ?_; rintro e w1 ⟨rfl, hr1, hb1⟩)
            have tok : True := trivial
            go_wp2_with (go_at_call 32; have _t := tok; clear tok; refine (see_c 124 true hr1 hb1 x124.out).mono ?_; rintro e w2 ⟨rfl, hr2, hb2⟩; obtain ⟨y0, y1, yy⟩ := hr2.cells; have hCw2 := hb2.heap hC (by simp; omega); have cCw2 : w2.cell? ⟨C, 1, none⟩ = some (.slice p ss.length k) := (by rw [cell_of_row w2 C 1 _ _ _ hCw2]; rfl); have fCw2 : w2.frozen? ⟨C, 1, none⟩ = false := blk_free hCw2)
            exact ⟨rfl, hfin _ _ ⟨hb.trans (hb2.weak (by simp; omega)), .inr ⟨b, 2, HE.out, rfl⟩⟩⟩
          · have k2 : tk s.data.toList [124] b = (true, b + 1) := by rw [tk, if_pos h124]; rfl
            have l2 : b + 1 ≤ s.size := by have := tk_le k2 (by simpa using l1); simpa using this
            rcases trip (sn s.data.toList 5 (b + 1)) with ⟨d, f, k3⟩ | ⟨d, f, k3⟩
            · have HE := Lib.hid (hT.out.trans (hfu.trans (so_next he' k1 (fun h => h16 h.2) k2 k3)))
              have K3 := Lib.hid k3
              clear k3
              have H16 := Lib.hid h16
              have q16 : ((ss.length : Int) == 16) = false := by simp; omega
              have x124 := Lib.hid (show decide (s.data.toList[b]? = some 124) = true from decide_eq_true h124)
              have K1 := Lib.hid k1
              have K2 := Lib.hid k2
              have HR := Lib.hid hr
              clear hr hfu k1 k2
              clear h124 h16
              go_wp2_with fail
              go_quiet (fail)
              have hrq := HR.out.keep ((But.refl [] wr).drewN nq) (by simp)
              have hbq := (But.refl [R] wr).drewN nq
              have tok : True := trivial
              go_wp2_with (go_at_call 28; have _t := tok; clear tok; refine (take_ok (w0 := wr) [32] (by decide) (by omega) hc hrq hbq K1.out).mono ?_; rintro e w1 ⟨rfl, hr1, hb1⟩)
              have tok : True := trivial
              go_wp2_with (go_at_call 32; have _t := tok; clear tok; refine (see_c 124 true hr1 hb1 x124.out).mono ?_; rintro e w2 ⟨rfl, hr2, hb2⟩; have hCw2 := hb2.heap hC (by simp; omega); have cCw2 : w2.cell? ⟨C, 1, none⟩ = some (.slice p ss.length k) := (by rw [cell_of_row w2 C 1 _ _ _ hCw2]; rfl); have fCw2 : w2.frozen? ⟨C, 1, none⟩ = false := blk_free hCw2)
              have tok : True := trivial
              go_wp2_with (go_at_call 28; have _t := tok; clear tok; refine (take_ok [124] (by decide) (by omega) l1 hr2 hb2 K2.out).mono ?_; rintro e w3 ⟨rfl, hr3, hb3⟩; have hCw3 := hb3.heap hC (by simp; omega); have cCw3 : w3.cell? ⟨C, 1, none⟩ = some (.slice p ss.length k) := (by rw [cell_of_row w3 C 1 _ _ _ hCw3]; rfl); have fCw3 : w3.frozen? ⟨C, 1, none⟩ = false := blk_free hCw3; have hg3 := hgr.keep hb3 (by simpa using hR); have hos3 := hos.keep hb3 (fun g hg => by have := hos.block g hg; simp; omega); have hb3W : But [R, C] W w3 := hb.trans (hb3.weak (by simp; omega)))
              have cCd : w3.drew.cell? ⟨C, 1, none⟩ = some (.slice p ss.length k) := cCw3
              refine wp_region_noPanic ?_
              refine wp_region_held_drew (S := fun _ => True) (by kernel_rfl) ?_ (fun hHeld => ?_)
              · (try dsimp only); (try exact trivial)
              (refine wpAnyH_take (i := 0) (oi := _) (v := _) rfl (by decide +kernel) (by decide +kernel) (by decide +kernel) (fun _ _ _ h => h) (Or.inl ⟨by rfl, by (intro w hSw; (try dsimp only at hSw); go_simp; try with_reducible rfl)⟩) (by assumption) ?_; (try simp only [Act.put, List.setIfInBounds_toArray, List.set_cons_zero, List.set_cons_succ, List.getElem_toArray, List.getElem_cons_succ, List.getElem_cons_zero]))
              (refine wpAnyH_take (i := 2) (oi := _) (v := _) rfl (by decide +kernel) (by decide +kernel) (by decide +kernel) (fun _ _ _ h => h) (Or.inl ⟨by rfl, by (intro w hSw; (try dsimp only at hSw); go_simp; try with_reducible rfl)⟩) (by assumption) ?_; (try simp only [Act.put, List.setIfInBounds_toArray, List.set_cons_zero, List.set_cons_succ, List.getElem_toArray, List.getElem_cons_succ, List.getElem_cons_zero]))
              refine wpAnyH_ready (rs := [1, 3]) (by decide +kernel) (by simp) ?_
              refine AllReadyH.cons (o := _) rfl (fun K hK => ?_) ?_
              · go_simp
                refine hK.out _ _ (by (try dsimp only); (try exact trivial)) (fun hNew => ?_); clear hK K; clear hHeld; have hHeld := hNew; clear hNew
                (try simp only [Act.put, List.setIfInBounds_toArray, List.set_cons_zero, List.set_cons_succ, List.getElem_toArray, List.getElem_cons_succ, List.getElem_cons_zero])
                refine wpAnyH_ready (rs := [3]) (by decide +kernel) (by simp) ?_
                refine AllReadyH.cons (o := _) rfl (fun K hK => ?_) AllReadyH.nil
                go_simp; go_at_call 33; refine (se_ok hs l2 hR (hr3.keep ((But.refl [] w3).drew) (by simp)) (hg3.keep ((But.refl [] w3).drew) (by simp)) K3.out).mono ?_; rintro e w4 ⟨p0, p1, p2, p3, p4, rfl, hz, hr4, hb4⟩; have HZ := Lib.hid hz; clear hz; have hb34 : But [R] w3 w4 := ((But.refl [R] w3).drew).trans hb4; have hos4 := hos3.keep hb34 (fun g hg => by have := hos3.block g hg; simp; omega); have hC4 := hb34.heap hCw3 (by simp; omega); have cC4 : w4.cell? ⟨C, 1, none⟩ = some (.slice p ss.length k) := (by rw [cell_of_row w4 C 1 _ _ _ hC4]; rfl); have hs4 := hb34.size; have hsW := hb3W.size; go_wp2_with fail
                refine hK.out _ _ (by (try dsimp only); (try exact trivial)) (fun hNew => ?_); clear hK K; clear hHeld; have hHeld := hNew; clear hNew
                (try simp only [Act.put, List.setIfInBounds_toArray, List.set_cons_zero, List.set_cons_succ, List.getElem_toArray, List.getElem_cons_succ, List.getElem_cons_zero])
                refine wpAnyH_ready (rs := [4]) (by decide +kernel) (by simp) ?_
                refine AllReadyH.cons (o := _) rfl (fun K hK => ?_) AllReadyH.nil
                go_simp; have cC4a : (w4.alloc (.cells #[.complex .f64 p0.1 p0.2, .complex .f64 p1.1 p1.2, .complex .f64 p2.1 p2.2, .complex .f64 p3.1 p3.2, .complex .f64 p4.1 p4.2] 75)).cell? ⟨C, 1, none⟩ = some (.slice p ss.length k) := ((But.refl [] w4).alloc _).cell cC4 (by simp)
                refine hK.out _ _ (by (try dsimp only); (try exact trivial)) (fun hNew => ?_); clear hK K; clear hHeld; have hHeld := hNew; clear hNew
                (try simp only [Act.put, List.setIfInBounds_toArray, List.set_cons_zero, List.set_cons_succ, List.getElem_toArray, List.getElem_cons_succ, List.getElem_cons_zero])
                refine wpAnyH_ready (rs := [5]) (by decide +kernel) (by simp) ?_
                refine AllReadyH.cons (o := _) rfl (fun K hK => ?_) AllReadyH.nil
                refine step_append_os rfl _ _ rfl W.heap.size _ ss rfl (hos4.alloc (.cells #[.complex .f64 p0.1 p0.2, .complex .f64 p1.1 p1.2, .complex .f64 p2.1 p2.2, .complex .f64 p3.1 p3.2, .complex .f64 p4.1 p4.2] 75)) ⟨w4.heap.size, 0, none⟩ 1 [p0, p1, p2, p3, p4] rfl HZ.out.1.1 (five_cells w4 [p0, p1, p2, p3, p4] HZ.out.1.1) (by omega) (by simp; omega) ?_; intro v' w5 hos5 hgr5; have hbg : But (Value.slice p ss.length k).ownBlock.toList w4 w5 := ((But.refl _ w4).alloc _).grown hgr5 (fun g hg => .inl (Option.mem_toList.2 (Option.mem_def.2 hg))); have hnq : ∀ q, q < W.heap.size → q ∉ (Value.slice p ss.length k).ownBlock.toList := (fun q hq h => by have := hos4.block q (Option.mem_def.1 (Option.mem_toList.1 h)); omega); have hC5 := hbg.heap hC4 (hnq C hCW); have cC5 : w5.cell? ⟨C, 1, none⟩ = some (.slice p ss.length k) := (by rw [cell_of_row w5 C 1 _ _ _ hC5]; rfl); have fC5 : w5.frozen? ⟨C, 1, none⟩ = false := blk_free hC5; have hr5 := hr4.keep hbg (hnq R hRW); have hb5W : But [R, C] W w5 := (hb3W.trans (hb34.weak (by simp; omega))).then hbg (fun q hq h => absurd h (hnq q hq)); obtain ⟨p5, n5, k5, rfl⟩ := hos5.slice
                refine hK.out _ _ (by (try dsimp only); (try exact trivial)) (fun hNew => ?_); clear hK K; clear hHeld; have hHeld := hNew; clear hNew
                (try simp only [Act.put, List.setIfInBounds_toArray, List.set_cons_zero, List.set_cons_succ, List.getElem_toArray, List.getElem_cons_succ, List.getElem_cons_zero])
                (refine wpAnyH_take (i := 6) (oi := _) (v := _) rfl (by decide +kernel) (by decide +kernel) (by decide +kernel) (fun _ _ _ h => h) (Or.inl ⟨by rfl, by (intro w hSw; (try dsimp only at hSw); go_simp; try with_reducible rfl)⟩) (by assumption) ?_; (try simp only [Act.put, List.setIfInBounds_toArray, List.set_cons_zero, List.set_cons_succ, List.getElem_toArray, List.getElem_cons_succ, List.getElem_cons_zero]))
                refine wpAnyH_ready (rs := [7]) (by decide +kernel) (by simp) ?_
                refine AllReadyH.cons (o := _) rfl (fun K hK => ?_) AllReadyH.nil
                go_simp
                refine hK.out _ _ (by (try dsimp only); (try exact trivial)) (fun hNew => ?_); clear hK K; clear hHeld; have hHeld := hNew; clear hNew
                (try simp only [Act.put, List.setIfInBounds_toArray, List.set_cons_zero, List.set_cons_succ, List.getElem_toArray, List.getElem_cons_succ, List.getElem_cons_zero])
                refine wpAnyH_done (by decide +kernel) ?_ _
                refine NoPanic.normal ?_; (try simp only [Exit.then])
                have hrF : Rdr (w5.setCell ⟨C, 1, none⟩ (.slice p5 n5 k5)) R s d := (Below.heap_setCell w5 ⟨C, 1, none⟩ (.slice p5 n5 k5) R hn).trans hr5
                go_wp2_with fail
                refine ⟨⟨ss ++ [[p0, p1, p2, p3, p4]], d, p5, n5, k5, by rw [List.length_append, List.length_singleton]; have := H16.out; omega, by have := sn_le _ _ _ _ _ (by simpa using l2) K3.out; simpa using this, hrF, hb5W.setCell _ _ (.inl (by simp)), blk_set _ _ _ _ _ _ hC5, hos5.keep ((But.refl [C] w5).setCell ⟨C, 1, none⟩ (.slice p5 n5 k5) (.inl (by simp))) (fun g hg => by have := hos5.block g hg; simp; omega), Lib.hid (by rw [List.length_append, List.length_singleton, show 18 - (ss.length + 1) = 17 - ss.length by omega]; exact HE.out), Lib.hid (by rw [scT_snoc]; exact hI.out.trans ((tk_is _ _ _ _ K1.out).trans ((tk_is _ _ _ _ K2.out).trans HZ.out.2))), Lib.hid (fun z hz => (List.mem_append.1 hz).elim (fun h => hS.out z h) (fun h => by rw [List.mem_singleton.1 h]; exact HZ.out.1))⟩, ?_⟩
                · rw [hrF.at, HR.out.at]
                  have h1 := (tk_is _ _ _ _ K1.out).1
                  have h2 := HZ.out.2.1
                  simp only [List.length_singleton] at h1
                  omega
              refine AllReadyH.cons (o := _) rfl (fun K hK => ?_) AllReadyH.nil
              go_simp; go_at_call 33; refine (se_ok hs l2 hR (hr3.keep ((But.refl [] w3).drew) (by simp)) (hg3.keep ((But.refl [] w3).drew) (by simp)) K3.out).mono ?_; rintro e w4 ⟨p0, p1, p2, p3, p4, rfl, hz, hr4, hb4⟩; have HZ := Lib.hid hz; clear hz; have hb34 : But [R] w3 w4 := ((But.refl [R] w3).drew).trans hb4; have hos4 := hos3.keep hb34 (fun g hg => by have := hos3.block g hg; simp; omega); have hC4 := hb34.heap hCw3 (by simp; omega); have cC4 : w4.cell? ⟨C, 1, none⟩ = some (.slice p ss.length k) := (by rw [cell_of_row w4 C 1 _ _ _ hC4]; rfl); have hs4 := hb34.size; have hsW := hb3W.size; go_wp2_with fail
              refine hK.out _ _ (by (try dsimp only); (try exact trivial)) (fun hNew => ?_); clear hK K; clear hHeld; have hHeld := hNew; clear hNew
              (try simp only [Act.put, List.setIfInBounds_toArray, List.set_cons_zero, List.set_cons_succ, List.getElem_toArray, List.getElem_cons_succ, List.getElem_cons_zero])
              refine wpAnyH_ready (rs := [1, 4]) (by decide +kernel) (by simp) ?_
              refine AllReadyH.cons (o := _) rfl (fun K hK => ?_) ?_
              · go_simp
                refine hK.out _ _ (by (try dsimp only); (try exact trivial)) (fun hNew => ?_); clear hK K; clear hHeld; have hHeld := hNew; clear hNew
                (try simp only [Act.put, List.setIfInBounds_toArray, List.set_cons_zero, List.set_cons_succ, List.getElem_toArray, List.getElem_cons_succ, List.getElem_cons_zero])
                refine wpAnyH_ready (rs := [4]) (by decide +kernel) (by simp) ?_
                refine AllReadyH.cons (o := _) rfl (fun K hK => ?_) AllReadyH.nil
                go_simp; have cC4a : (w4.alloc (.cells #[.complex .f64 p0.1 p0.2, .complex .f64 p1.1 p1.2, .complex .f64 p2.1 p2.2, .complex .f64 p3.1 p3.2, .complex .f64 p4.1 p4.2] 75)).cell? ⟨C, 1, none⟩ = some (.slice p ss.length k) := ((But.refl [] w4).alloc _).cell cC4 (by simp)
                refine hK.out _ _ (by (try dsimp only); (try exact trivial)) (fun hNew => ?_); clear hK K; clear hHeld; have hHeld := hNew; clear hNew
                (try simp only [Act.put, List.setIfInBounds_toArray, List.set_cons_zero, List.set_cons_succ, List.getElem_toArray, List.getElem_cons_succ, List.getElem_cons_zero])
                refine wpAnyH_ready (rs := [5]) (by decide +kernel) (by simp) ?_
                refine AllReadyH.cons (o := _) rfl (fun K hK => ?_) AllReadyH.nil
                refine step_append_os rfl _ _ rfl W.heap.size _ ss rfl (hos4.alloc (.cells #[.complex .f64 p0.1 p0.2, .complex .f64 p1.1 p1.2, .complex .f64 p2.1 p2.2, .complex .f64 p3.1 p3.2, .complex .f64 p4.1 p4.2] 75)) ⟨w4.heap.size, 0, none⟩ 1 [p0, p1, p2, p3, p4] rfl HZ.out.1.1 (five_cells w4 [p0, p1, p2, p3, p4] HZ.out.1.1) (by omega) (by simp; omega) ?_; intro v' w5 hos5 hgr5; have hbg : But (Value.slice p ss.length k).ownBlock.toList w4 w5 := ((But.refl _ w4).alloc _).grown hgr5 (fun g hg => .inl (Option.mem_toList.2 (Option.mem_def.2 hg))); have hnq : ∀ q, q < W.heap.size → q ∉ (Value.slice p ss.length k).ownBlock.toList := (fun q hq h => by have := hos4.block q (Option.mem_def.1 (Option.mem_toList.1 h)); omega); have hC5 := hbg.heap hC4 (hnq C hCW); have cC5 : w5.cell? ⟨C, 1, none⟩ = some (.slice p ss.length k) := (by rw [cell_of_row w5 C 1 _ _ _ hC5]; rfl); have fC5 : w5.frozen? ⟨C, 1, none⟩ = false := blk_free hC5; have hr5 := hr4.keep hbg (hnq R hRW); have hb5W : But [R, C] W w5 := (hb3W.trans (hb34.weak (by simp; omega))).then hbg (fun q hq h => absurd h (hnq q hq)); obtain ⟨p5, n5, k5, rfl⟩ := hos5.slice
                refine hK.out _ _ (by (try dsimp only); (try exact trivial)) (fun hNew => ?_); clear hK K; clear hHeld; have hHeld := hNew; clear hNew
                (try simp only [Act.put, List.setIfInBounds_toArray, List.set_cons_zero, List.set_cons_succ, List.getElem_toArray, List.getElem_cons_succ, List.getElem_cons_zero])
                (refine wpAnyH_take (i := 6) (oi := _) (v := _) rfl (by decide +kernel) (by decide +kernel) (by decide +kernel) (fun _ _ _ h => h) (Or.inl ⟨by rfl, by (intro w hSw; (try dsimp only at hSw); go_simp; try with_reducible rfl)⟩) (by assumption) ?_; (try simp only [Act.put, List.setIfInBounds_toArray, List.set_cons_zero, List.set_cons_succ, List.getElem_toArray, List.getElem_cons_succ, List.getElem_cons_zero]))
                refine wpAnyH_ready (rs := [7]) (by decide +kernel) (by simp) ?_
                refine AllReadyH.cons (o := _) rfl (fun K hK => ?_) AllReadyH.nil
                go_simp
                refine hK.out _ _ (by (try dsimp only); (try exact trivial)) (fun hNew => ?_); clear hK K; clear hHeld; have hHeld := hNew; clear hNew
                (try simp only [Act.put, List.setIfInBounds_toArray, List.set_cons_zero, List.set_cons_succ, List.getElem_toArray, List.getElem_cons_succ, List.getElem_cons_zero])
                refine wpAnyH_done (by decide +kernel) ?_ _
                refine NoPanic.normal ?_; (try simp only [Exit.then])
                have hrF : Rdr (w5.setCell ⟨C, 1, none⟩ (.slice p5 n5 k5)) R s d := (Below.heap_setCell w5 ⟨C, 1, none⟩ (.slice p5 n5 k5) R hn).trans hr5
                go_wp2_with fail
                refine ⟨⟨ss ++ [[p0, p1, p2, p3, p4]], d, p5, n5, k5, by rw [List.length_append, List.length_singleton]; have := H16.out; omega, by have := sn_le _ _ _ _ _ (by simpa using l2) K3.out; simpa using this, hrF, hb5W.setCell _ _ (.inl (by simp)), blk_set _ _ _ _ _ _ hC5, hos5.keep ((But.refl [C] w5).setCell ⟨C, 1, none⟩ (.slice p5 n5 k5) (.inl (by simp))) (fun g hg => by have := hos5.block g hg; simp; omega), Lib.hid (by rw [List.length_append, List.length_singleton, show 18 - (ss.length + 1) = 17 - ss.length by omega]; exact HE.out), Lib.hid (by rw [scT_snoc]; exact hI.out.trans ((tk_is _ _ _ _ K1.out).trans ((tk_is _ _ _ _ K2.out).trans HZ.out.2))), Lib.hid (fun z hz => (List.mem_append.1 hz).elim (fun h => hS.out z h) (fun h => by rw [List.mem_singleton.1 h]; exact HZ.out.1))⟩, ?_⟩
                · rw [hrF.at, HR.out.at]
                  have h1 := (tk_is _ _ _ _ K1.out).1
                  have h2 := HZ.out.2.1
                  simp only [List.length_singleton] at h1
                  omega
              refine AllReadyH.cons (o := _) rfl (fun K hK => ?_) AllReadyH.nil
              go_simp; have cC4a : (w4.alloc (.cells #[.complex .f64 p0.1 p0.2, .complex .f64 p1.1 p1.2, .complex .f64 p2.1 p2.2, .complex .f64 p3.1 p3.2, .complex .f64 p4.1 p4.2] 75)).cell? ⟨C, 1, none⟩ = some (.slice p ss.length k) := ((But.refl [] w4).alloc _).cell cC4 (by simp)
              refine hK.out _ _ (by (try dsimp only); (try exact trivial)) (fun hNew => ?_); clear hK K; clear hHeld; have hHeld := hNew; clear hNew
              (try simp only [Act.put, List.setIfInBounds_toArray, List.set_cons_zero, List.set_cons_succ, List.getElem_toArray, List.getElem_cons_succ, List.getElem_cons_zero])
              refine wpAnyH_ready (rs := [1]) (by decide +kernel) (by simp) ?_
              refine AllReadyH.cons (o := _) rfl (fun K hK => ?_) AllReadyH.nil
              go_simp
              refine hK.out _ _ (by (try dsimp only); (try exact trivial)) (fun hNew => ?_); clear hK K; clear hHeld; have hHeld := hNew; clear hNew
              (try simp only [Act.put, List.setIfInBounds_toArray, List.set_cons_zero, List.set_cons_succ, List.getElem_toArray, List.getElem_cons_succ, List.getElem_cons_zero])
              refine wpAnyH_ready (rs := [5]) (by decide +kernel) (by simp) ?_
              refine AllReadyH.cons (o := _) rfl (fun K hK => ?_) AllReadyH.nil
              refine step_append_os rfl _ _ rfl W.heap.size _ ss rfl (hos4.alloc (.cells #[.complex .f64 p0.1 p0.2, .complex .f64 p1.1 p1.2, .complex .f64 p2.1 p2.2, .complex .f64 p3.1 p3.2, .complex .f64 p4.1 p4.2] 75)) ⟨w4.heap.size, 0, none⟩ 1 [p0, p1, p2, p3, p4] rfl HZ.out.1.1 (five_cells w4 [p0, p1, p2, p3, p4] HZ.out.1.1) (by omega) (by simp; omega) ?_; intro v' w5 hos5 hgr5; have hbg : But (Value.slice p ss.length k).ownBlock.toList w4 w5 := ((But.refl _ w4).alloc _).grown hgr5 (fun g hg => .inl (Option.mem_toList.2 (Option.mem_def.2 hg))); have hnq : ∀ q, q < W.heap.size → q ∉ (Value.slice p ss.length k).ownBlock.toList := (fun q hq h => by have := hos4.block q (Option.mem_def.1 (Option.mem_toList.1 h)); omega); have hC5 := hbg.heap hC4 (hnq C hCW); have cC5 : w5.cell? ⟨C, 1, none⟩ = some (.slice p ss.length k) := (by rw [cell_of_row w5 C 1 _ _ _ hC5]; rfl); have fC5 : w5.frozen? ⟨C, 1, none⟩ = false := blk_free hC5; have hr5 := hr4.keep hbg (hnq R hRW); have hb5W : But [R, C] W w5 := (hb3W.trans (hb34.weak (by simp; omega))).then hbg (fun q hq h => absurd h (hnq q hq)); obtain ⟨p5, n5, k5, rfl⟩ := hos5.slice
              refine hK.out _ _ (by (try dsimp only); (try exact trivial)) (fun hNew => ?_); clear hK K; clear hHeld; have hHeld := hNew; clear hNew
              (try simp only [Act.put, List.setIfInBounds_toArray, List.set_cons_zero, List.set_cons_succ, List.getElem_toArray, List.getElem_cons_succ, List.getElem_cons_zero])
              (refine wpAnyH_take (i := 6) (oi := _) (v := _) rfl (by decide +kernel) (by decide +kernel) (by decide +kernel) (fun _ _ _ h => h) (Or.inl ⟨by rfl, by (intro w hSw; (try dsimp only at hSw); go_simp; try with_reducible rfl)⟩) (by assumption) ?_; (try simp only [Act.put, List.setIfInBounds_toArray, List.set_cons_zero, List.set_cons_succ, List.getElem_toArray, List.getElem_cons_succ, List.getElem_cons_zero]))
              refine wpAnyH_ready (rs := [7]) (by decide +kernel) (by simp) ?_
              refine AllReadyH.cons (o := _) rfl (fun K hK => ?_) AllReadyH.nil
              go_simp
              refine hK.out _ _ (by (try dsimp only); (try exact trivial)) (fun hNew => ?_); clear hK K; clear hHeld; have hHeld := hNew; clear hNew
              (try simp only [Act.put, List.setIfInBounds_toArray, List.set_cons_zero, List.set_cons_succ, List.getElem_toArray, List.getElem_cons_succ, List.getElem_cons_zero])
              refine wpAnyH_done (by decide +kernel) ?_ _
              refine NoPanic.normal ?_; (try simp only [Exit.then])
              have hrF : Rdr (w5.setCell ⟨C, 1, none⟩ (.slice p5 n5 k5)) R s d := (Below.heap_setCell w5 ⟨C, 1, none⟩ (.slice p5 n5 k5) R hn).trans hr5
              go_wp2_with fail
              refine ⟨⟨ss ++ [[p0, p1, p2, p3, p4]], d, p5, n5, k5, by rw [List.length_append, List.length_singleton]; have := H16.out; omega, by have := sn_le _ _ _ _ _ (by simpa using l2) K3.out; simpa using this, hrF, hb5W.setCell _ _ (.inl (by simp)), blk_set _ _ _ _ _ _ hC5, hos5.keep ((But.refl [C] w5).setCell ⟨C, 1, none⟩ (.slice p5 n5 k5) (.inl (by simp))) (fun g hg => by have := hos5.block g hg; simp; omega), Lib.hid (by rw [List.length_append, List.length_singleton, show 18 - (ss.length + 1) = 17 - ss.length by omega]; exact HE.out), Lib.hid (by rw [scT_snoc]; exact hI.out.trans ((tk_is _ _ _ _ K1.out).trans ((tk_is _ _ _ _ K2.out).trans HZ.out.2))), Lib.hid (fun z hz => (List.mem_append.1 hz).elim (fun h => hS.out z h) (fun h => by rw [List.mem_singleton.1 h]; exact HZ.out.1))⟩, ?_⟩
              · rw [hrF.at, HR.out.at]
                have h1 := (tk_is _ _ _ _ K1.out).1
                have h2 := HZ.out.2.1
                simp only [List.length_singleton] at h1
                omega
            · have HE := Lib.hid (hT.out.trans (hfu.trans (so_bad he' k1 (fun h => h16 h.2) k2 k3)))
              have K3 := Lib.hid k3
              clear k3
              have H16 := Lib.hid h16
              have q16 : ((ss.length : Int) == 16) = false := by simp; omega
              have x124 := Lib.hid (show decide (s.data.toList[b]? = some 124) = true from decide_eq_true h124)
              have K1 := Lib.hid k1
              have K2 := Lib.hid k2
              have HR := Lib.hid hr
              clear hr hfu k1 k2
              clear h124 h16
              go_wp2_with fail
              go_quiet (fail)
              have hrq := HR.out.keep ((But.refl [] wr).drewN nq) (by simp)
              have hbq := (But.refl [R] wr).drewN nq
              have tok : True := trivial
              go_wp2_with (go_at_call 28; have _t := tok; clear tok; refine (take_ok (w0 := wr) [32] (by decide) (by omega) hc hrq hbq K1.out).mono ?_; rintro e w1 ⟨rfl, hr1, hb1⟩)
              have tok : True := trivial
              go_wp2_with (go_at_call 32; have _t := tok; clear tok; refine (see_c 124 true hr1 hb1 x124.out).mono ?_; rintro e w2 ⟨rfl, hr2, hb2⟩; have hCw2 := hb2.heap hC (by simp; omega); have cCw2 : w2.cell? ⟨C, 1, none⟩ = some (.slice p ss.length k) := (by rw [cell_of_row w2 C 1 _ _ _ hCw2]; rfl); have fCw2 : w2.frozen? ⟨C, 1, none⟩ = false := blk_free hCw2)
              have tok : True := trivial
              go_wp2_with (go_at_call 28; have _t := tok; clear tok; refine (take_ok [124] (by decide) (by omega) l1 hr2 hb2 K2.out).mono ?_; rintro e w3 ⟨rfl, hr3, hb3⟩; have hCw3 := hb3.heap hC (by simp; omega); have cCw3 : w3.cell? ⟨C, 1, none⟩ = some (.slice p ss.length k) := (by rw [cell_of_row w3 C 1 _ _ _ hCw3]; rfl); have fCw3 : w3.frozen? ⟨C, 1, none⟩ = false := blk_free hCw3; have hg3 := hgr.keep hb3 (by simpa using hR); have hos3 := hos.keep hb3 (fun g hg => by have := hos.block g hg; simp; omega); have hb3W : But [R, C] W w3 := hb.trans (hb3.weak (by simp; omega)))
              have cCd : w3.drew.cell? ⟨C, 1, none⟩ = some (.slice p ss.length k) := cCw3
              refine wp_region_held_drew (S := fun _ => True) (by kernel_rfl) ?_ (fun hHeld => ?_)
              · exact trivial
              (refine wpAnyH_take (i := 0) (oi := _) (v := _) rfl (by decide +kernel) (by decide +kernel) (by decide +kernel) (fun _ _ _ h => h) (Or.inl ⟨by rfl, by (intro w hSw; (try dsimp only at hSw); go_simp; try with_reducible rfl)⟩) (by assumption) ?_; (try simp only [Act.put, List.setIfInBounds_toArray, List.set_cons_zero, List.set_cons_succ, List.getElem_toArray, List.getElem_cons_succ, List.getElem_cons_zero]))
              (refine wpAnyH_take (i := 2) (oi := _) (v := _) rfl (by decide +kernel) (by decide +kernel) (by decide +kernel) (fun _ _ _ h => h) (Or.inl ⟨by rfl, by (intro w hSw; (try dsimp only at hSw); go_simp; try with_reducible rfl)⟩) (by assumption) ?_; (try simp only [Act.put, List.setIfInBounds_toArray, List.set_cons_zero, List.set_cons_succ, List.getElem_toArray, List.getElem_cons_succ, List.getElem_cons_zero]))
              refine wpAnyH_ready (rs := [1, 3]) (by decide +kernel) (by simp) ?_
              refine AllReadyH.cons (o := _) rfl (fun K hK => ?_) ?_
              · go_simp
                refine hK.out _ _ trivial (fun hNew => ?_); clear hK K; clear hHeld; have hHeld := hNew; clear hNew
                (try simp only [Act.put, List.setIfInBounds_toArray, List.set_cons_zero, List.set_cons_succ, List.getElem_toArray, List.getElem_cons_succ, List.getElem_cons_zero])
                refine wpAnyH_ready (rs := [3]) (by decide +kernel) (by simp) ?_
                refine AllReadyH.cons (o := _) rfl (fun K hK => ?_) AllReadyH.nil
                go_simp; go_at_call 33; refine (se_no hs l2 hR (hr3.keep ((But.refl [] w3).drew) (by simp)) (hg3.keep ((But.refl [] w3).drew) (by simp)) K3.out).mono ?_; rintro e w4 ⟨he4, hb4⟩; subst he4; simp only [Fa]; go_wp2_with fail
                exact ⟨rfl, hfin _ _ ⟨hb3W.trans ((((But.refl [R] w3).drew).trans hb4).weak (by simp; omega)), .inr ⟨d, f, HE.out, rfl⟩⟩⟩
              · refine AllReadyH.cons (o := _) rfl (fun K hK => ?_) AllReadyH.nil
                go_simp; go_at_call 33; refine (se_no hs l2 hR (hr3.keep ((But.refl [] w3).drew) (by simp)) (hg3.keep ((But.refl [] w3).drew) (by simp)) K3.out).mono ?_; rintro e w4 ⟨he4, hb4⟩; subst he4; simp only [Fa]; go_wp2_with fail
                exact ⟨rfl, hfin _ _ ⟨hb3W.trans ((((But.refl [R] w3).drew).trans hb4).weak (by simp; omega)), .inr ⟨d, f, HE.out, rfl⟩⟩⟩
        · have k2 : tk s.data.toList [124] b = (false, b) := by rw [tk, if_neg h124]
          have HE := Lib.hid (hT.out.trans (hfu.trans (so_bar he' k1 (fun h => h124 h.1) k2)))
          have x124 := Lib.hid (show decide (s.data.toList[b]? = some 124) = false from decide_eq_false h124)
          have K1 := Lib.hid k1
          have K2 := Lib.hid k2
          have HR := Lib.hid hr
          clear hr hfu k1 k2
          clear h124
          go_wp2_with fail
          go_quiet (fail)
          have hrq := HR.out.keep ((But.refl [] wr).drewN nq) (by simp)
          have hbq := (But.refl [R] wr).drewN nq
          have tok : True := trivial
          go_wp2_with (go_at_call 28; have _t := tok; clear tok; refine (take_ok (w0 := wr) [32] (by decide) (by omega) hc hrq hbq K1.out).mono ?_; rintro e w1 ⟨rfl, hr1, hb1⟩)
          have tok : True := trivial
          go_wp2_with (go_at_call 32; have _t := tok; clear tok; refine (see_c 124 false hr1 hb1 x124.out).mono ?_; rintro e w2 ⟨rfl, hr2, hb2⟩)
          have tok : True := trivial
          go_wp2_with (go_at_call 28; have _t := tok; clear tok; refine (take_no [124] (by decide) (by omega) l1 hr2 hb2 K2.out).mono ?_; rintro e w3 ⟨he3, hb3⟩; subst he3; simp only [Fa])
          exact ⟨rfl, hfin _ _ ⟨hb.trans (hb3.weak (by simp; omega)), .inr ⟨b, 12, HE.out, rfl⟩⟩⟩
      · have HE := Lib.hid (hT.out.trans (hfu.trans (so_sp he' k1)))
        have K1 := Lib.hid k1
        have HR := Lib.hid hr
        clear hr hfu k1
        go_wp2_with fail
        go_quiet (fail)
        have hrq := HR.out.keep ((But.refl [] wr).drewN nq) (by simp)
        have hbq := (But.refl [R] wr).drewN nq
        have tok : True := trivial
        go_wp2_with (go_at_call 28; have _t := tok; clear tok; refine (take_no (w0 := wr) [32] (by decide) (by omega) hc hrq hbq K1.out).mono ?_; rintro e w1 ⟨he1, hb1⟩; subst he1; simp only [Fa])
        exact ⟨rfl, hfin _ _ ⟨hb.trans (hb1.weak (by simp; omega)), .inr ⟨b, 12, HE.out, rfl⟩⟩⟩
    · have t1 : decide ((c : Int) < (s.size : Int)) = false := decide_eq_false (by omega)
      have HE := Lib.hid (hT.out.trans (show so s.data.toList (18 - ss.length) c ss.length = (true, c, 0) by rw [show 18 - ss.length = (17 - ss.length) + 1 by omega]; exact so_end (by simpa using he)))
      have HR := Lib.hid hr
      clear hr
      go_wp2_with fail
      go_quiet (fail)
      have hrq := HR.out.keep ((But.refl [] wr).drewN nq) (by simp)
      have hbq := (But.refl [R] wr).drewN nq
      go_wp2_with fail
      go_end0
      exact hfin _ _ ⟨(hb.trans (hbq.weak (by simp; omega))), .inl ⟨rfl, c, ss, p, _, k, HE.out, hrq, hbq.heap hC (by simp; omega), hos.keep hbq (fun g hg => by have := hos.block g hg; simp; omega), hI.out, hl16, hS.out⟩⟩
end Go.Proofs.YtnghppgpdeghfaaGreatDoor
