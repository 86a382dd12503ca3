/- stream.begin, stream.New, (*Stream).At. -/
import Derived.Test.YtnmpofjegepmaaaT2
namespace Go.Proofs.Ytnmpofjegepmaaa
open Go.RowKit Go.Proofs.Ytnmpofjegepmaaa.Fl Go.Proofs.Ytnmpofjegepmaaa.Pt

set_option linter.unusedSimpArgs false in
set_option maxHeartbeats 1000000 in
set_option maxRecDepth 100000 in
theorem sbegin_any (gr g : C) (n fb fo fk : Nat) (A : Option Addr) (f cl m : Bool) (Sc : Nat → C) (w : World) (hg : ccn gr = g) (hgw : wf gr) (hgf : FinC g) (n16 : n ≤ 16) (hAK : (A = none ∧ n = 0 ∧ fk = 0) ∨ (∃ a, A = some a ∧ (0 < n → a = ⟨fb, fo, none⟩))) (hs : RC w fb fo (n * 5) Sc) (hf : ∀ j, j < n * 5 → FinC (Sc j)) :
    Calls Try.prog 82 #[.agg #[.complex .f64 gr.1 gr.2, .slice A n fk], .agg #[.bool f, .bool cl, .bool m]] w fun e w' => ∃ d p q, e = .returned (.tuple #[.pointer (some ⟨d, 0, none⟩), .int .i64 0]) ∧ w.heap.size ≤ d ∧ w.heap.size ≤ p ∧ w.heap.size ≤ q ∧ Stm w' d p q n f cl m 0 0 g Sc (fun _ => Z0) ∧ But [] w w' := by
  have hA : 0 < n → A = some ⟨fb, fo, none⟩ := fun h => by
    rcases hAK with ⟨_, h0, _⟩ | ⟨a, rfl, ha⟩
    · omega
    · rw [ha h]
  obtain ⟨w1, hw1, hb1, d0, d1, d2, d3, d4⟩ : ∃ w1, (w.alloc (.cells #[.complex .f64 gr.1 gr.2, .slice A n fk] 28)).alloc (.cells #[.bool f, .bool cl, .bool m] 57) = w1 ∧ But [] w w1 ∧ w1.cell? ⟨w.heap.size, 0, none⟩ = some (.complex .f64 gr.1 gr.2) ∧ w1.cell? ⟨w.heap.size, 1, none⟩ = some (.slice A n fk) ∧ w1.cell? ⟨w.heap.size + 1, 0, none⟩ = some (.bool f) ∧ w1.cell? ⟨w.heap.size + 1, 1, none⟩ = some (.bool cl) ∧ w1.cell? ⟨w.heap.size + 1, 2, none⟩ = some (.bool m) :=
    ⟨_, rfl, ((But.refl _ _).alloc _).alloc _, by simp [go_sem, World.cell?_alloc_past], by simp [go_sem, World.cell?_alloc_past], by simp [go_sem, World.cell?_alloc_past], by simp [go_sem, World.cell?_alloc_past], by simp [go_sem, World.cell?_alloc_past]⟩
  have hmk : ∀ W : World, (Instr.makeSlice 50 (.int .i64 (n : Int)) (.int .i64 (n : Int))).run Try.prog W = .ok (.slice (some ⟨W.heap.size, 0, none⟩) n n) (W.alloc (.cells (madeCells #[.complex .f64 0 0, .complex .f64 0 0] (n * 2)) 71)) := by
    intro W
    obtain ⟨i, hi, hz, hs, hby⟩ := info_parts Try.info71
    have hr := run_make (P := Try.prog) W 50 71 i _ Try.underlying50 hi hz .i64 .i64 n n (by omega) (Int.le_refl _) (by rw [hby]; omega) (by omega)
    rw [hs] at hr
    exact hr
  have HA := Lib.hid hA
  have HG := Lib.hid hg
  have HAK := Lib.hid hAK
  clear hA hg hAK
  go_enter Try.func82, Try.ntmps82
  go_wp2_with fail
  refine (gnew_any gr g n fb fo fk A f cl m Sc _ HG.out hgw hgf n16 HAK.out (hs.keep hb1 (by simp)) hf).mono ?_
  rintro e wb ⟨_, _, _, _, _, rfl, _, _, _, _, _, _, hb2⟩
  have e0 := hb2.cell d0 (by simp)
  have e1 := hb2.cell d1 (by simp)
  have e2 := hb2.cell d2 (by simp)
  have e3 := hb2.cell d3 (by simp)
  have e4 := hb2.cell d4 (by simp)
  have hs3 := (hs.keep hb1 (by simp)).keep hb2 (by simp)
  have hbb := hb1.trans hb2
  have sz1 := hb1.size
  clear hw1 d0 d1 d2 d3 d4
  go_wp2_with fail
  refine wp_region_noPanic ?_
  refine wp_region_held_drew (S := fun w' => But [] wb w' ∧ w'.cell? ⟨w.heap.size, 0, none⟩ = some (.complex .f64 gr.1 gr.2) ∧ w'.cell? ⟨w.heap.size, 1, none⟩ = some (.slice A n fk) ∧ w'.cell? ⟨w.heap.size + 1, 0, none⟩ = some (.bool f) ∧ w'.cell? ⟨w.heap.size + 1, 1, none⟩ = some (.bool cl) ∧ w'.cell? ⟨w.heap.size + 1, 2, none⟩ = some (.bool m)) (by kernel_rfl) ?_ (fun hHeld => ?_)
  · (try dsimp only); exact ⟨((But.refl [] wb).drew), ((But.refl [] wb).drew).cell e0 (by simp), ((But.refl [] wb).drew).cell e1 (by simp), ((But.refl [] wb).drew).cell e2 (by simp), ((But.refl [] wb).drew).cell e3 (by simp), ((But.refl [] wb).drew).cell e4 (by simp)⟩
  (refine wpAnyH_take (i := 0) (oi := _) (v := _) rfl (by decide +kernel) (by decide +kernel) (by decide +kernel) (fun _ _ _ h => h) (Or.inl ⟨by rfl, by (intro w hSw; (try dsimp only at hSw); go_simp; try with_reducible rfl)⟩) (by assumption) ?_; (try simp only [Act.put, List.setIfInBounds_toArray, List.set_cons_zero, List.set_cons_succ, List.getElem_toArray, List.getElem_cons_succ, List.getElem_cons_zero]))
  (refine wpAnyH_take (i := 1) (oi := _) (v := _) rfl (by decide +kernel) (by decide +kernel) (by decide +kernel) (fun _ _ _ h => h) (Or.inl ⟨by rfl, by (intro w hSw; (try dsimp only at hSw); go_simp; try with_reducible rfl)⟩) (by assumption) ?_; (try simp only [Act.put, List.setIfInBounds_toArray, List.set_cons_zero, List.set_cons_succ, List.getElem_toArray, List.getElem_cons_succ, List.getElem_cons_zero]))
  (refine wpAnyH_take (i := 2) (oi := _) (v := _) rfl (by decide +kernel) (by decide +kernel) (by decide +kernel) (fun _ _ _ h => h) (Or.inl ⟨by rfl, by (intro w hSw; (try dsimp only at hSw); go_simp; try with_reducible rfl)⟩) (by assumption) ?_; (try simp only [Act.put, List.setIfInBounds_toArray, List.set_cons_zero, List.set_cons_succ, List.getElem_toArray, List.getElem_cons_succ, List.getElem_cons_zero]))
  (refine wpAnyH_take (i := 3) (oi := _) (v := _) rfl (by decide +kernel) (by decide +kernel) (by decide +kernel) (fun _ _ _ h => h) (Or.inl ⟨by rfl, by (intro w hSw; (try dsimp only at hSw); go_simp; try with_reducible rfl)⟩) (by assumption) ?_; (try simp only [Act.put, List.setIfInBounds_toArray, List.set_cons_zero, List.set_cons_succ, List.getElem_toArray, List.getElem_cons_succ, List.getElem_cons_zero]))
  refine wpAnyH_ready (rs := [4]) (by decide +kernel) (by simp) ?_
  refine AllReadyH.cons (o := _) rfl (fun K hK => ?_) AllReadyH.nil
  go_simp
  refine hK.out _ _ (by (try dsimp only); exact ⟨(hHeld.1.alloc (.cells (madeCells #[.complex .f64 0 0, .complex .f64 0 0] (n * 2)) 71)), (hHeld.1.alloc (.cells (madeCells #[.complex .f64 0 0, .complex .f64 0 0] (n * 2)) 71)).cell e0 (by simp), (hHeld.1.alloc (.cells (madeCells #[.complex .f64 0 0, .complex .f64 0 0] (n * 2)) 71)).cell e1 (by simp), (hHeld.1.alloc (.cells (madeCells #[.complex .f64 0 0, .complex .f64 0 0] (n * 2)) 71)).cell e2 (by simp), (hHeld.1.alloc (.cells (madeCells #[.complex .f64 0 0, .complex .f64 0 0] (n * 2)) 71)).cell e3 (by simp), (hHeld.1.alloc (.cells (madeCells #[.complex .f64 0 0, .complex .f64 0 0] (n * 2)) 71)).cell e4 (by simp)⟩) (fun hNew => ?_); clear hK K; clear hHeld; have hHeld := hNew; clear hNew
  (try simp only [Act.put, List.setIfInBounds_toArray, List.set_cons_zero, List.set_cons_succ, List.getElem_toArray, List.getElem_cons_succ, List.getElem_cons_zero])
  (refine wpAnyH_take (i := 5) (oi := _) (v := _) rfl (by decide +kernel) (by decide +kernel) (by decide +kernel) (fun _ _ _ h => h) (Or.inl ⟨by rfl, by (intro w hSw; (try dsimp only at hSw); go_simp; try with_reducible rfl)⟩) (by assumption) ?_; (try simp only [Act.put, List.setIfInBounds_toArray, List.set_cons_zero, List.set_cons_succ, List.getElem_toArray, List.getElem_cons_succ, List.getElem_cons_zero]))
  refine wpAnyH_ready (rs := [6]) (by decide +kernel) (by simp) ?_
  refine AllReadyH.cons (o := _) rfl (fun K hK => ?_) AllReadyH.nil
  go_simp
  refine hK.out _ _ (by (try dsimp only); exact ⟨(hHeld.1.alloc (.cells #[.complex .f64 0 0, .slice none 0 0, .bool f, .bool cl, .bool m, .slice (some ⟨wb.heap.size, 0, none⟩) n n, .int .u64 0, .int .u64 0] 120)), (hHeld.1.alloc (.cells #[.complex .f64 0 0, .slice none 0 0, .bool f, .bool cl, .bool m, .slice (some ⟨wb.heap.size, 0, none⟩) n n, .int .u64 0, .int .u64 0] 120)).cell e0 (by simp), (hHeld.1.alloc (.cells #[.complex .f64 0 0, .slice none 0 0, .bool f, .bool cl, .bool m, .slice (some ⟨wb.heap.size, 0, none⟩) n n, .int .u64 0, .int .u64 0] 120)).cell e1 (by simp), (hHeld.1.alloc (.cells #[.complex .f64 0 0, .slice none 0 0, .bool f, .bool cl, .bool m, .slice (some ⟨wb.heap.size, 0, none⟩) n n, .int .u64 0, .int .u64 0] 120)).cell e2 (by simp), (hHeld.1.alloc (.cells #[.complex .f64 0 0, .slice none 0 0, .bool f, .bool cl, .bool m, .slice (some ⟨wb.heap.size, 0, none⟩) n n, .int .u64 0, .int .u64 0] 120)).cell e3 (by simp), (hHeld.1.alloc (.cells #[.complex .f64 0 0, .slice none 0 0, .bool f, .bool cl, .bool m, .slice (some ⟨wb.heap.size, 0, none⟩) n n, .int .u64 0, .int .u64 0] 120)).cell e4 (by simp)⟩) (fun hNew => ?_); clear hK K; clear hHeld; have hHeld := hNew; clear hNew
  (try simp only [Act.put, List.setIfInBounds_toArray, List.set_cons_zero, List.set_cons_succ, List.getElem_toArray, List.getElem_cons_succ, List.getElem_cons_zero])
  (refine wpAnyH_take (i := 7) (oi := _) (v := _) rfl (by decide +kernel) (by decide +kernel) (by decide +kernel) (fun _ _ _ h => h) (Or.inl ⟨by rfl, by (intro w hSw; (try dsimp only at hSw); go_simp; try with_reducible rfl)⟩) (by assumption) ?_; (try simp only [Act.put, List.setIfInBounds_toArray, List.set_cons_zero, List.set_cons_succ, List.getElem_toArray, List.getElem_cons_succ, List.getElem_cons_zero]))
  refine wpAnyH_done (by decide +kernel) ?_ _
  refine NoPanic.normal ?_; (try simp only [Exit.then])
  clear hHeld
  have hz1 : (wb.alloc (.cells (madeCells #[.complex .f64 0 0, .complex .f64 0 0] (n * 2)) 71)).heap.size = wb.heap.size + 1 := by simp
  obtain ⟨wd, hwd, hbD, hblk, hocD, hsD⟩ : ∃ wd, ((wb.alloc (.cells (madeCells #[.complex .f64 0 0, .complex .f64 0 0] (n * 2)) 71)).alloc (.cells #[.complex .f64 0 0, .slice none 0 0, .bool f, .bool cl, .bool m, .slice (some ⟨wb.heap.size, 0, none⟩) n n, .int .u64 0, .int .u64 0] 120)).drew = wd ∧ But [] wb wd ∧ wd.heap[wb.heap.size + 1]? = some (.cells #[.complex .f64 0 0, .slice none 0 0, .bool f, .bool cl, .bool m, .slice (some ⟨wb.heap.size, 0, none⟩) n n, .int .u64 0, .int .u64 0] 120 (0, 0)) ∧ OC wd wb.heap.size 71 (n * 2) (fun _ => Z0) ∧ wd.heap.size = wb.heap.size + 2 :=
    ⟨_, rfl, (((But.refl _ _).alloc _).alloc _).drew, hz1 ▸ heap_alloc_new (wb.alloc (.cells (madeCells #[.complex .f64 0 0, .complex .f64 0 0] (n * 2)) 71)) _, (zeros_oc wb 71 (n * 2) (z := #[.complex .f64 0 0, .complex .f64 0 0]) (.inr rfl)).keep ((But.refl [] _).alloc _).drew (by simp), by show ((wb.alloc _).alloc _).heap.size = _; simp⟩
  rw [hwd]
  have HSD := Lib.hid hsD
  have sz2 := hb2.size
  replace e0 := hbD.cell e0 (by simp)
  replace e1 := hbD.cell e1 (by simp)
  clear hz1 hwd e2 e3 e4 hmk hsD
  go_wp2_with fail
  refine wp_region_noPanic ?_
  refine wp_region_held_drew (S := fun w' => But [wb.heap.size + 1] wd w' ∧ w'.cell? ⟨w.heap.size, 0, none⟩ = some (.complex .f64 gr.1 gr.2) ∧ w'.cell? ⟨w.heap.size, 1, none⟩ = some (.slice A n fk)) (by kernel_rfl) ?_ (fun hHeld => ?_)
  · (try dsimp only); exact ⟨((But.refl [wb.heap.size + 1] wd).drew), ((But.refl [wb.heap.size + 1] wd).drew).cell e0 (by simp; omega), ((But.refl [wb.heap.size + 1] wd).drew).cell e1 (by simp; omega)⟩
  (refine wpAnyH_take (i := 0) (oi := _) (v := _) rfl (by decide +kernel) (by decide +kernel) (by decide +kernel) (fun _ _ _ h => h) (Or.inl ⟨by rfl, by (intro w hSw; (try dsimp only at hSw); go_simp; try with_reducible rfl)⟩) (by assumption) ?_; (try simp only [Act.put, List.setIfInBounds_toArray, List.set_cons_zero, List.set_cons_succ, List.getElem_toArray, List.getElem_cons_succ, List.getElem_cons_zero]))
  (refine wpAnyH_take (i := 1) (oi := _) (v := _) rfl (by decide +kernel) (by decide +kernel) (by decide +kernel) (fun _ _ _ h => h) (Or.inl ⟨by rfl, by (intro w hSw; (try dsimp only at hSw); go_simp; try with_reducible rfl)⟩) (by assumption) ?_; (try simp only [Act.put, List.setIfInBounds_toArray, List.set_cons_zero, List.set_cons_succ, List.getElem_toArray, List.getElem_cons_succ, List.getElem_cons_zero]))
  (refine wpAnyH_take (i := 2) (oi := _) (v := _) rfl (by decide +kernel) (by decide +kernel) (by decide +kernel) (fun _ _ _ h => h) (Or.inl ⟨by rfl, by (intro w hSw; (try dsimp only at hSw); go_simp; try with_reducible rfl)⟩) (by assumption) ?_; (try simp only [Act.put, List.setIfInBounds_toArray, List.set_cons_zero, List.set_cons_succ, List.getElem_toArray, List.getElem_cons_succ, List.getElem_cons_zero]))
  (refine wpAnyH_take (i := 4) (oi := _) (v := _) rfl (by decide +kernel) (by decide +kernel) (by decide +kernel) (fun _ _ _ h => h) (Or.inl ⟨by rfl, by (intro w hSw; (try dsimp only at hSw); go_simp; try with_reducible rfl)⟩) (by assumption) ?_; (try simp only [Act.put, List.setIfInBounds_toArray, List.set_cons_zero, List.set_cons_succ, List.getElem_toArray, List.getElem_cons_succ, List.getElem_cons_zero]))
  (refine wpAnyH_take (i := 5) (oi := _) (v := _) rfl (by decide +kernel) (by decide +kernel) (by decide +kernel) (fun _ _ _ h => h) (Or.inl ⟨by rfl, by (intro w hSw; (try dsimp only at hSw); go_simp; try with_reducible rfl)⟩) (by assumption) ?_; (try simp only [Act.put, List.setIfInBounds_toArray, List.set_cons_zero, List.set_cons_succ, List.getElem_toArray, List.getElem_cons_succ, List.getElem_cons_zero]))
  refine wpAnyH_ready (rs := [3]) (by decide +kernel) (by simp) ?_
  refine AllReadyH.cons (o := _) rfl (fun K hK => ?_) AllReadyH.nil
  go_simp
  refine hK.out _ _ (by (try dsimp only); exact ⟨(hHeld.1.alloc (.cells #[] 33)), (hHeld.1.alloc (.cells #[] 33)).cell e0 (by simp; omega), (hHeld.1.alloc (.cells #[] 33)).cell e1 (by simp; omega)⟩) (fun hNew => ?_); clear hK K; clear hHeld; have hHeld := hNew; clear hNew
  (try simp only [Act.put, List.setIfInBounds_toArray, List.set_cons_zero, List.set_cons_succ, List.getElem_toArray, List.getElem_cons_succ, List.getElem_cons_zero])
  refine wpAnyH_ready (rs := [6]) (by decide +kernel) (by simp) ?_
  refine AllReadyH.cons (o := _) rfl (fun K hK => ?_) AllReadyH.nil
  refine step_append_rc _ rfl _ _ _ rfl wd.heap.size 33 _ 5 80 Try.underlying26 Try.info33 rfl (by omega) (.slice (some ⟨wd.heap.size, 0, none⟩) 0 0) 0 (fun _ => Z0) rfl (OR.empty wd 33 5 _) A fb fo n fk Sc rfl HA.out ((hs3.keep hbD (by simp)).keep ((But.refl [] wd).alloc _).drew (by simp)) (by omega) (by omega) (by simp) ?_; intro v' w' hor hgr hob hnn; have hbg0 : But [] wd w' := (((But.refl [] wd).alloc _).drew).grown hgr (fun g hg => by { simp [Value.ownBlock] at hg; exact .inr (by omega) }); have hbg : But [wb.heap.size + 1] wd w' := hbg0.weak (by simp); obtain ⟨pb, pk, rfl, hpk, hpb, hoc⟩ := newRow_of (by simpa [cat_zero] using hor) (hnn (by simp)); have hbl5 := hbg0.heap hblk (by simp); have g0 : w'.cell? ⟨wb.heap.size + 1, 0, none⟩ = some (.complex .f64 0 0) := (by rw [cell_of_row _ (wb.heap.size + 1) 0 _ _ _ hbl5]; rfl); have g1 : w'.cell? ⟨wb.heap.size + 1, 1, none⟩ = some (.slice none 0 0) := (by rw [cell_of_row _ (wb.heap.size + 1) 1 _ _ _ hbl5]; rfl); have z0 := blk_free (i := 0) hbl5; have z1 := blk_free (i := 1) hbl5; have HB5 := Lib.hid hbl5; clear hor hgr hob hnn hbl5
  refine hK.out _ _ (by (try dsimp only); exact ⟨hbg, hbg.cell e0 (by simp; omega), hbg.cell e1 (by simp; omega)⟩) (fun hNew => ?_); clear hK K; clear hHeld; have hHeld := hNew; clear hNew
  (try simp only [Act.put, List.setIfInBounds_toArray, List.set_cons_zero, List.set_cons_succ, List.getElem_toArray, List.getElem_cons_succ, List.getElem_cons_zero])
  (refine wpAnyH_take (i := 7) (oi := _) (v := _) rfl (by decide +kernel) (by decide +kernel) (by decide +kernel) (fun _ _ _ h => h) (Or.inl ⟨by rfl, by (intro w hSw; (try dsimp only at hSw); go_simp; try with_reducible rfl)⟩) (by assumption) ?_; (try simp only [Act.put, List.setIfInBounds_toArray, List.set_cons_zero, List.set_cons_succ, List.getElem_toArray, List.getElem_cons_succ, List.getElem_cons_zero]))
  (refine wpAnyH_take (i := 8) (oi := _) (v := _) rfl (by decide +kernel) (by decide +kernel) (by decide +kernel) (fun _ _ _ h => h) (Or.inl ⟨by rfl, by (intro w hSw; (try dsimp only at hSw); go_simp; try with_reducible rfl)⟩) (by assumption) ?_; (try simp only [Act.put, List.setIfInBounds_toArray, List.set_cons_zero, List.set_cons_succ, List.getElem_toArray, List.getElem_cons_succ, List.getElem_cons_zero]))
  (refine wpAnyH_take (i := 9) (oi := _) (v := _) rfl (by decide +kernel) (by decide +kernel) (by decide +kernel) (fun _ _ _ h => h) (Or.inl ⟨by rfl, by (intro w hSw; (try dsimp only at hSw); go_simp; try with_reducible rfl)⟩) (by assumption) ?_; (try simp only [Act.put, List.setIfInBounds_toArray, List.set_cons_zero, List.set_cons_succ, List.getElem_toArray, List.getElem_cons_succ, List.getElem_cons_zero]))
  refine wpAnyH_ready (rs := [10]) (by decide +kernel) (by simp) ?_
  refine AllReadyH.cons (o := _) rfl (fun K hK => ?_) AllReadyH.nil
  go_simp
  refine hK.out _ _ (by (try dsimp only); exact ⟨((hHeld.1.setCell ⟨wb.heap.size + 1, 0, none⟩ (.complex .f64 gr.1 gr.2) (.inl (by simp))).setCell ⟨wb.heap.size + 1, 1, none⟩ (.slice (some ⟨pb, 0, none⟩) n pk) (.inl (by simp))), ((hHeld.1.setCell ⟨wb.heap.size + 1, 0, none⟩ (.complex .f64 gr.1 gr.2) (.inl (by simp))).setCell ⟨wb.heap.size + 1, 1, none⟩ (.slice (some ⟨pb, 0, none⟩) n pk) (.inl (by simp))).cell e0 (by simp; omega), ((hHeld.1.setCell ⟨wb.heap.size + 1, 0, none⟩ (.complex .f64 gr.1 gr.2) (.inl (by simp))).setCell ⟨wb.heap.size + 1, 1, none⟩ (.slice (some ⟨pb, 0, none⟩) n pk) (.inl (by simp))).cell e1 (by simp; omega)⟩) (fun hNew => ?_); clear hK K; clear hHeld; have hHeld := hNew; clear hNew
  (try simp only [Act.put, List.setIfInBounds_toArray, List.set_cons_zero, List.set_cons_succ, List.getElem_toArray, List.getElem_cons_succ, List.getElem_cons_zero])
  refine wpAnyH_done (by decide +kernel) ?_ _
  refine NoPanic.normal ?_; (try simp only [Exit.then])
  go_wp2_with fail
  go_ret2
  have hsz2 := hbb.size
  have hwd2 := hoc.lt
  have hwb : wb.heap.size < wd.heap.size := hocD.lt
  have hse := hbg0.size
  have hsD := HSD.out
  have hbQ : But [wb.heap.size + 1] w' ((w'.setCell ⟨wb.heap.size + 1, 0, none⟩ (.complex .f64 gr.1 gr.2)).setCell ⟨wb.heap.size + 1, 1, none⟩ (.slice (some ⟨pb, 0, none⟩) n pk)) := ((But.refl _ _).setCell _ _ (.inl (by simp))).setCell _ _ (.inl (by simp))
  refine ⟨wb.heap.size + 1, pb, wb.heap.size, rfl, by omega, by omega, by omega, ⟨n16, ⟨gr, pk, n, ?_, hgw, HG.out⟩, (hoc.keep hbQ (by simp; omega)).rc, (hocD.keep hbg0 (by simp)).keep hbQ (by simp), by show pb < _; simpa using hwd2, by omega, by omega, by omega⟩, ?_⟩
  · rw [blk_set _ _ _ _ _ _ (blk_set _ _ _ _ _ _ HB5.out)]; rfl
  · exact ((hbb.trans hbD).trans hbg0).then hbQ (fun i hi hm => by simp at hm; omega)

theorem snew_any (gr g : C) (n fb fo fk : Nat) (A : Option Addr) (f cl m : Bool) (Sc : Nat → C) (w : World) (hg : ccn gr = g) (hgw : wf gr) (hgf : FinC g) (n16 : n ≤ 16) (hAK : (A = none ∧ n = 0 ∧ fk = 0) ∨ (∃ a, A = some a ∧ (0 < n → a = ⟨fb, fo, none⟩))) (hs : RC w fb fo (n * 5) Sc) (hf : ∀ j, j < n * 5 → FinC (Sc j)) :
    Calls Try.prog 39 #[.agg #[.complex .f64 gr.1 gr.2, .slice A n fk], .agg #[.bool f, .bool cl, .bool m]] w fun e w' => ∃ d p q, e = .returned (.tuple #[.pointer (some ⟨d, 0, none⟩), .int .i64 0]) ∧ w.heap.size ≤ d ∧ w.heap.size ≤ p ∧ w.heap.size ≤ q ∧ Stm w' d p q n f cl m 0 0 g Sc (fun _ => Z0) ∧ But [] w w' := by
  obtain ⟨w1, hw1, hb1, d0, d1, d2, d3, d4⟩ : ∃ w1, (w.alloc (.cells #[.complex .f64 gr.1 gr.2, .slice A n fk] 28)).alloc (.cells #[.bool f, .bool cl, .bool m] 57) = w1 ∧ But [] w w1 ∧ w1.cell? ⟨w.heap.size, 0, none⟩ = some (.complex .f64 gr.1 gr.2) ∧ w1.cell? ⟨w.heap.size, 1, none⟩ = some (.slice A n fk) ∧ w1.cell? ⟨w.heap.size + 1, 0, none⟩ = some (.bool f) ∧ w1.cell? ⟨w.heap.size + 1, 1, none⟩ = some (.bool cl) ∧ w1.cell? ⟨w.heap.size + 1, 2, none⟩ = some (.bool m) :=
    ⟨_, rfl, ((But.refl _ _).alloc _).alloc _, by simp [go_sem, World.cell?_alloc_past], by simp [go_sem, World.cell?_alloc_past], by simp [go_sem], by simp [go_sem], by simp [go_sem]⟩
  have HG := Lib.hid hg
  have HAK := Lib.hid hAK
  clear hg hAK
  go_enter Try.func39, Try.ntmps39
  go_wp2_with fail
  refine (sbegin_any gr g n fb fo fk A f cl m Sc _ HG.out hgw hgf n16 HAK.out (hs.keep hb1 (by simp)) hf).mono ?_
  rintro e w2 ⟨d, p, q, rfl, h1, h2, h3, h4, hb2⟩
  go_wp2_with fail
  go_ret2
  have s1 := hb1.size
  exact ⟨d, p, q, rfl, by omega, by omega, by omega, h4, hb1.trans hb2⟩
theorem sat_any (d p q n : Nat) (f c m : Bool) (at_ ch : Nat) (g : C) (Sc St : Nat → C) (w : World) (h : Stm w d p q n f c m at_ ch g Sc St) :
    Calls Try.prog 40 #[.pointer (some ⟨d, 0, none⟩)] w fun e w' => e = .returned (.int .u64 (at_ : Int)) ∧ w' = w := by
  obtain ⟨gr, k1, k2, hb, _⟩ := h.blk
  have c6 : w.cell? ⟨d, 6, none⟩ = some (.int .u64 (at_ : Int)) := by rw [cell_of_row w d 6 _ _ _ hb]; rfl
  clear hb h
  go_enter Try.func40, Try.ntmps40
  go_wp2_with fail
  go_ret
  exact ⟨rfl, rfl⟩
end Go.Proofs.Ytnmpofjegepmaaa
