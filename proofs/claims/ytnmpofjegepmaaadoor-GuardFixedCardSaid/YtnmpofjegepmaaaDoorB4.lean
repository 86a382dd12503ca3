/- GuardFixed: the walk. -/
import Derived.Test.YtnmpofjegepmaaaDoorB3
import Derived.Outline
namespace Go.Proofs.YtnmpofjegepmaaaDoor
open Go.RowKit Go.Proofs.YtnmpofjegepmaaaDoor.Fl Go.Proofs.YtnmpofjegepmaaaDoor.Pt

theorem half_least : N2 .quo 4503599627370496 4611686018427387904 = 2251799813685248 := by decide +kernel

set_option linter.unusedSimpArgs false in
set_option maxHeartbeats 4000000 in
set_option maxRecDepth 100000 in
theorem fixed_any (w : World) (a0 : w.cell? ⟨0, 0, none⟩ = some (.bool true)) (a1 : w.cell? ⟨0, 1, none⟩ = some (.bool true)) (a2 : w.cell? ⟨0, 2, none⟩ = some (.bool true)) :
    Calls Tryd.prog 3 #[] w fun e w' => e = .returned (.bool true) ∧ But [] w w' := by
  have ng1 : ∀ W, (Op.unary UnOp.neg (.float .f64 17592186044416)).run Tryd.prog W = .ok (.float .f64 9223389629040820224) W := fun _ => by kernel_rfl
  have ng2 : ∀ W, (Op.unary UnOp.neg (.float .f64 9218868437227405312)).run Tryd.prog W = .ok (.float .f64 18442240474082181120) W := fun _ => by kernel_rfl
  go_enter Tryd.func3, Tryd.ntmps3
  go_wp2_with fail
  refine (awake19_any _).mono ?_
  rintro e w1 ⟨rfl, hb1⟩
  go_wp2_with fail
  refine (inf_any _).mono ?_
  rintro e w2 ⟨rfl, rfl⟩
  go_wp2_with fail
  refine (mnan_any _).mono ?_
  rintro e w2 ⟨rfl, rfl⟩
  go_wp2_with fail
  refine (ldexp1_any _).mono ?_
  rintro e w3 ⟨rfl, hb3⟩
  go_wp2_with fail
  refine (cleanc_any true false false 1 9223389629040820224 (by omega) (by omega) _).mono ?_
  rintro e w4 ⟨rfl, hb4⟩
  rw [fl_1.1, fl_1.2.1, fl_1.2.2]
  go_wp2_with fail
  refine (cleanc_any false true false 18442240474082181120 1 (by omega) (by omega) _).mono ?_
  rintro e w5 ⟨rfl, hb5⟩
  rw [fl_2.1, fl_2.2.1, fl_2.2.2]
  go_wp2_with fail
  refine (cleanc_any false false true 9221120237041090561 9218868437227405312 (by omega) (by omega) _).mono ?_
  rintro e w6 ⟨rfl, hb6⟩
  rw [fl_3.1, fl_3.2.1, fl_3.2.2]
  go_wp2_with fail
  refine (cleanc_any false false false 9221120237041090561 9218868437227405312 (by omega) (by omega) _).mono ?_
  rintro e w7 ⟨rfl, hb7⟩
  rw [fl_4.1, fl_4.2.1, fl_4.2.2]
  go_wp2_with fail
  refine (copysign_any 0 13830554455654793216 (by omega) (by omega) _).mono ?_
  rintro e w8 ⟨rfl, rfl⟩
  rw [show 0 + sgw 13830554455654793216 = 9223372036854775808 by decide]
  go_wp2_with fail
  refine (rSame_true (0, 9223372036854775808) (0, 9223372036854775808) (by simp [wf]) (by simp [wf]) rfl _).mono ?_
  rintro e w9 ⟨rfl, rfl⟩
  go_wp2_with fail
  refine (rSame_true (18442240474082181119, 1) (18442240474082181119, 1) (by simp [wf]) (by simp [wf]) rfl _).mono ?_
  rintro e w9 ⟨rfl, rfl⟩
  go_wp2_with fail
  refine (rSame_true (0, 9218868437227405312) (0, 9218868437227405312) (by simp [wf]) (by simp [wf]) rfl _).mono ?_
  rintro e w9 ⟨rfl, rfl⟩
  go_wp2_with fail
  refine (rSame_true (9221120237041090561, 9218868437227405312) (9221120237041090561, 9218868437227405312) (by simp [wf]) (by simp [wf]) rfl _).mono ?_
  rintro e w9 ⟨rfl, rfl⟩
  have hA : But [] w w9 := ((((hb1.trans hb3).trans hb4).trans hb5).trans hb6).trans hb7
  clear hb1 hb3 hb4 hb5 hb6 hb7
  go_wp2_with fail
  refine (half_flt _).mono ?_
  rintro e w10 ⟨b10, rfl, hrc10, hl10, hb10⟩
  go_wp2_with fail
  refine (gnew_any ONE ONE 1 b10 0 1 (some ⟨b10, 0, none⟩) false true false hSec _ (by decide) (by simp [wf, ONE]) (by unfold FinC; decide +kernel) (by omega) (.inr ⟨_, rfl, fun _ => rfl⟩) hrc10 h_fin).mono ?_
  rintro e w11 ⟨d, c, p, q, p2, rfl, hd, hc, hp, hq, hp2, hgrd, hb11⟩
  go_wp2_with fail
  have hba : But [] w11 (w11.alloc (.cells #[.complex .f64 9218868437227405311 0, .complex .f64 9218868437227405311 0] 26)) := (But.refl _ _).alloc _
  have dl := hgrd.cas.cl
  obtain ⟨gr0, A0, k0, hblk0, _⟩ := hgrd.blk
  have dl2 : d < w11.heap.size := (Array.getElem?_eq_some_iff.1 hblk0).1
  clear hblk0
  refine (grun_any d c p q p2 1 w11.heap.size 0 2 2 false true false 0 (by omega) (some ⟨w11.heap.size, 0, none⟩) (fun _ => rfl) (by omega) ONE (fun _ => MX) hSec _ _ (mx_rc w11) (by omega) (hgrd.keep hba (by simp) (by simp) (by simp) (by simp) (by simp))).mono ?_
  rintro e w12 ⟨v, q', rfl, hor, hq', hgrd12, hb12⟩
  rw [x_n] at hgrd12
  have hB : But [] w w12 := (((hA.trans hb10).trans hb11).trans hba).then hb12 (fun i hi hm => by have := hA.size; have := hb10.size; simp at hm; omega)
  clear hA hb10 hb11 hba hb12 hgrd hrc10
  rcases hor.form with ⟨_, h⟩ | ⟨bv, kv, rfl, hbv, hkv, hoc⟩
  · omega
  replace hoc := hoc.congr (ys := fun _ => MX) fun j hj => x_y j (by omega)
  clear hor
  go_wp2_with fail
  have hbw : But [] w12 (w12.alloc (.cells #[.complex .f64 9218868437227405311 0, .complex .f64 9218868437227405311 0] 26)) := (But.refl _ _).alloc _
  refine (rsall_any (some ⟨bv, 0, none⟩) (some ⟨w12.heap.size, 0, none⟩) bv 0 w12.heap.size 0 2 kv 2 (by omega) (.inr ⟨by omega, rfl, rfl⟩) (fun _ => MX) _ (hoc.rc.keep hbw (by simp)) (mx_rc w12)).mono ?_
  rintro e w13 ⟨rfl, hb13⟩
  have hgrd13 := (hgrd12.keep hbw (by simp) (by simp) (by simp) (by simp) (by simp)).keep hb13 (by simp) (by simp) (by simp) (by simp) (by simp)
  have hC : But [] w w13 := (hB.trans hbw).trans hb13
  clear hB hbw hb13 hgrd12 hoc
  go_wp2_with fail
  refine (gchanged_any d c p q' p2 1 false true false _ ONE hSec _ _ hgrd13).mono ?_
  rintro e w14 ⟨rfl, rfl⟩
  go_wp2_with fail
  refine (gstates_any d c p q' p2 1 false true false _ ONE hSec _ _ hgrd13).mono ?_
  rintro e w15 ⟨sb, sk, rfl, hsk, hsb, hos, hb15⟩
  obtain ⟨z, hz, wz, ez⟩ := hos.rc.one 0 (by omega)
  rw [x_s] at ez
  have hD : But [] w w15 := hC.trans hb15
  have EZ := Lib.hid ez
  clear hC hb15 ez hgrd13
  go_wp2_with fail
  refine (rSame_true z (9218868437227405311, NQ) wz (by simp [wf, NQ]) EZ.out _).mono ?_
  rintro e w16 ⟨rfl, rfl⟩
  clear hos hz wz EZ
  go_wp2_with fail
  refine (half_flt _).mono ?_
  rintro e w17 ⟨b17, rfl, hrc17, hl17, hb17⟩
  go_wp2_with fail
  refine (gnew_any ONE ONE 1 b17 0 1 (some ⟨b17, 0, none⟩) false false false hSec _ (by decide) (by simp [wf, ONE]) (by unfold FinC; decide +kernel) (by omega) (.inr ⟨_, rfl, fun _ => rfl⟩) hrc17 h_fin).mono ?_
  rintro e w18 ⟨od, oc, op, oq, op2, rfl, hod, hoc, hop, hoq, hop2, hgrd18, hb18⟩
  go_wp2_with fail
  refine (least_any _).mono ?_
  rintro e w19 ⟨rfl, rfl⟩
  go_wp2_with fail
  have hba : But [] w19 (w19.alloc (.cells #[.complex .f64 4503599627370496 0, .complex .f64 0 0] 26)) := (But.refl _ _).alloc _
  have odl := hgrd18.cas.cl
  obtain ⟨gr0, A0, k0, hblk0, _⟩ := hgrd18.blk
  have odl2 : od < w19.heap.size := (Array.getElem?_eq_some_iff.1 hblk0).1
  clear hblk0
  refine (grun_any od oc op oq op2 1 w19.heap.size 0 2 2 false false false 0 (by omega) (some ⟨w19.heap.size, 0, none⟩) (fun _ => rfl) (by omega) ONE lxs hSec _ _ (lxs_rc w19) (by omega) (hgrd18.keep hba (by simp) (by simp) (by simp) (by simp) (by simp))).mono ?_
  rintro e w20 ⟨v, oq', rfl, hor, hoq', _, hb20⟩
  have hE : But [] w w20 := (((hD.trans hb17).trans hb18).trans hba).then hb20 (fun i hi hm => by have := hD.size; have := hb17.size; simp at hm; omega)
  clear hD hb17 hb18 hba hb20 hgrd18 hrc17 hoq'
  rcases hor.form with ⟨_, h⟩ | ⟨bv2, kv2, rfl, hbv2, hkv2, hoc2⟩
  · omega
  obtain ⟨y, hy, wy, ey⟩ := hoc2.rc.one 1 (by omega)
  have ey1 : cn y.1 = 2251799813685248 := by rw [← o_y, ← ey]; rfl
  have ey2 := cn_eq ey1 (by decide)
  clear hor ey ey1 hoc2
  have hz0 : 0 < w20.heap.size := by have := World.block_lt_of_cell? _ _ a0; have := hE.size; omega
  have hsz := hE.size
  have e0 := hE.cell a0 (by simp)
  have e1 := hE.cell a1 (by simp)
  have e2 := hE.cell a2 (by simp)
  have hby : bv2 < w20.heap.size := World.block_lt_of_cell? _ _ hy
  clear a0 a1 a2
  obtain ⟨w21, hmk, hb21, hs21, hoc21⟩ := mk17w w20
  obtain ⟨w22, hw22, hb22, hs22, g0, g1, gf⟩ : ∃ w22, w21.alloc (.cells #[.complex .f64 0 0, .slice (some ⟨w20.heap.size, 0, none⟩) 17 17] 40) = w22 ∧ But [] w21 w22 ∧ w21.heap.size < w22.heap.size ∧ w22.cell? ⟨w21.heap.size, 0, none⟩ = some (.complex .f64 0 0) ∧ w22.cell? ⟨w21.heap.size, 1, none⟩ = some (.slice (some ⟨w20.heap.size, 0, none⟩) 17 17) ∧ w22.frozen? ⟨w21.heap.size, 1, none⟩ = false := ⟨_, rfl, (But.refl _ _).alloc _, by simp, by simp [go_sem], by simp [go_sem], by simp [go_sem]⟩
  have hoc22 := hoc21.keep hb22 (by simp)
  obtain ⟨z13, h13, _, _⟩ := hoc22.rc.one 13 (by omega)
  have f13 := hoc22.free 13
  have hoc23 : OC (w22.setCell ⟨w20.heap.size, 13, none⟩ (.complex .f64 0 9221120237041090561)) w20.heap.size 52 85 manySec := (hoc22.set_ 13 (a := (0, 9221120237041090561)) (x := ccn (0, NQ)) (by simp [wf]) rfl).congr fun j _ => rfl
  have hb23 : But [w20.heap.size] w22 (w22.setCell ⟨w20.heap.size, 13, none⟩ (.complex .f64 0 9221120237041090561)) := (But.refl _ _).setCell _ _ (.inl (by simp))
  obtain ⟨w23, hw23⟩ : ∃ w23, w22.setCell ⟨w20.heap.size, 13, none⟩ (.complex .f64 0 9221120237041090561) = w23 := ⟨_, rfl⟩
  rw [hw23] at hoc23 hb23
  have hb2023 := ((hb21.trans hb22).weak (qs' := [w20.heap.size]) (by simp)).trans hb23
  have k0 := hb23.cell g0 (by simp; omega)
  have k1 := hb23.cell g1 (by simp; omega)
  have kf := (hb23.frozen g1 (by simp; omega)).trans gf
  have m0 := hb2023.cell e0 (by simp; omega)
  have m1 := hb2023.cell e1 (by simp; omega)
  have m2 := hb2023.cell e2 (by simp; omega)
  have hy23 := hb2023.cell hy (by simp; omega)
  have HOC := Lib.hid hoc23
  have hF : But [] w w23 := hE.then hb2023 (fun i hi hm => by have := hE.size; simp at hm; omega)
  clear hoc21 hoc22 hoc23 hE e0 e1 e2 hb21 hb22 hb23 hb2023
  go_wp2_with fail
  clear hw22 hw23 hmk h13 f13 g0 g1 gf hy
  refine (gnew_bad (0, 0) (some ⟨w20.heap.size, 0, none⟩) 17 17 true true true 2 (by decide) _ (fun w' _ => cnew_long (0, 0) 17 17 _ w' (by omega))).mono ?_
  rintro e w24 ⟨rfl, hb24⟩
  replace k0 := hb24.cell k0 (by simp)
  replace kf := (hb24.frozen k1 (by simp)).trans kf
  replace k1 := hb24.cell k1 (by simp)
  replace m0 := hb24.cell m0 (by simp)
  replace m1 := hb24.cell m1 (by simp)
  replace m2 := hb24.cell m2 (by simp)
  replace hy23 := hb24.cell hy23 (by simp)
  have HOC2 := Lib.hid (HOC.out.keep hb24 (by simp))
  clear HOC
  have hb25 : But [w21.heap.size] w24 (w24.setCell ⟨w21.heap.size, 1, none⟩ (.slice (some ⟨w20.heap.size, 0, none⟩) 16 17)) := (But.refl _ _).setCell _ _ (.inl (by simp))
  obtain ⟨w25, hw25⟩ : ∃ w25, w24.setCell ⟨w21.heap.size, 1, none⟩ (.slice (some ⟨w20.heap.size, 0, none⟩) 16 17) = w25 := ⟨_, rfl⟩
  have k1' : w25.cell? ⟨w21.heap.size, 1, none⟩ = some (.slice (some ⟨w20.heap.size, 0, none⟩) 16 17) := by rw [← hw25]; exact World.cell?_setCell_same _ _ _ k1
  have k0' : w25.cell? ⟨w21.heap.size, 0, none⟩ = some (.complex .f64 0 0) := by rw [← hw25, World.cell?_setCell_other _ _ _ _ (by simp)]; exact k0
  rw [hw25] at hb25
  have n0 := hb25.cell m0 (by simp; omega)
  have n1 := hb25.cell m1 (by simp; omega)
  have n2 := hb25.cell m2 (by simp; omega)
  have hy25 := hb25.cell hy23 (by simp; omega)
  have HOC3 := Lib.hid (HOC2.out.keep hb25 (by simp; omega))
  have hG : But [] w w25 := (hF.trans hb24).then hb25 (fun i hi hm => by simp at hm; omega)
  clear HOC2 hF hb24 hb25
  go_wp2_with fail
  clear hw25 k0 k1 kf m0 m1 m2 hy23
  refine (gnew_bad (0, 0) (some ⟨w20.heap.size, 0, none⟩) 16 17 true true true 5 (by decide) _ (fun w' hw' => cnew_nan (0, 0) 16 w20.heap.size 0 17 manySec w' (by simp [wf]) (by decide +kernel) (by omega) (by omega) ((HOC3.out.keep hw' (by simp)).rc.less (by omega)) many_fin many_bad)).mono ?_
  rintro e w26 ⟨rfl, hb26⟩
  replace n0 := hb26.cell n0 (by simp)
  replace n1 := hb26.cell n1 (by simp)
  replace n2 := hb26.cell n2 (by simp)
  replace hy25 := hb26.cell hy25 (by simp)
  clear HOC3 k0' k1'
  go_wp2_with fail
  refine (gnew_bad (9218868437227405312, 0) none 0 0 true true true 5 (by decide) _ (fun w' _ => cnew_gain (9218868437227405312, 0) 0 0 none w' (by omega) (by simp [wf]) (by decide +kernel))).mono ?_
  rintro e w27 ⟨rfl, hb27⟩
  replace n0 := hb27.cell n0 (by simp)
  replace n1 := hb27.cell n1 (by simp)
  replace n2 := hb27.cell n2 (by simp)
  replace hy25 := hb27.cell hy25 (by simp)
  go_wp2_with fail
  refine (gnew_any (4611686018427387904, 0) (4611686018427387904, 0) 0 0 0 0 none true true true (fun _ => Z0) _ (by decide) (by simp [wf]) (by unfold FinC; decide +kernel) (by omega) (.inl ⟨rfl, rfl, rfl⟩) (fun j hj => by omega) (fun j hj => by omega)).mono ?_
  rintro e w28 ⟨bd, bc, bp, bq, bp2, rfl, hbd, hbc, hbp, hbq, hbp2, hgrd28, hb28⟩
  have hy28 := hb28.cell hy25 (by simp)
  have hH : But [] w w28 := ((hG.trans hb26).trans hb27).trans hb28
  have hz27 := ((hG.trans hb26).trans hb27).size
  clear hy25 n0 n1 n2 hG hb26 hb27
  rw [ey2] at hy28
  have o1 : FloatKind.f64.format.order 2251799813685248 2251799813685248 = some Ordering.eq := by decide +kernel
  go_wp2_with fail
  obtain ⟨r, nn, ar1, ar2, ar3⟩ := arith_any (P := Tryd.prog) w28.drew .quo (by simp) 23 4503599627370496 4611686018427387904
  obtain rfl := cn_eq (ar3.trans half_least) (by decide)
  clear ar2 ar3
  refine wp_region_noPanic ?_
  refine wp_region_held_drew (S := fun w' => But [] w28 w' ∧ w'.cell? ⟨bv2, 1, none⟩ = some (.complex .f64 2251799813685248 y.2)) (by kernel_rfl) ?_ (fun hHeld => ?_)
  · (try dsimp only); exact ⟨(But.refl _ _).drew, hy28⟩
  (refine wpAnyH_take (i := 0) (oi := _) (v := _) rfl (by decide +kernel) (by decide +kernel) (by decide +kernel) (fun _ _ _ h => h) (Or.inl ⟨by rfl, by (intro w hSw; (try dsimp only at hSw); go_simp; try with_reducible rfl)⟩) (by assumption) ?_; (try simp only [Act.put, List.setIfInBounds_toArray, List.set_cons_zero, List.set_cons_succ, List.getElem_toArray, List.getElem_cons_succ, List.getElem_cons_zero]))
  (refine wpAnyH_take (i := 1) (oi := _) (v := _) rfl (by decide +kernel) (by decide +kernel) (by decide +kernel) (fun _ _ _ h => h) (Or.inl ⟨by rfl, by (intro w hSw; (try dsimp only at hSw); go_simp; try with_reducible rfl)⟩) (by assumption) ?_; (try simp only [Act.put, List.setIfInBounds_toArray, List.set_cons_zero, List.set_cons_succ, List.getElem_toArray, List.getElem_cons_succ, List.getElem_cons_zero]))
  (refine wpAnyH_take (i := 2) (oi := _) (v := _) rfl (by decide +kernel) (by decide +kernel) (by decide +kernel) (fun _ _ _ h => h) (Or.inl ⟨by rfl, by (intro w hSw; (try dsimp only at hSw); go_simp; try with_reducible rfl)⟩) (by assumption) ?_; (try simp only [Act.put, List.setIfInBounds_toArray, List.set_cons_zero, List.set_cons_succ, List.getElem_toArray, List.getElem_cons_succ, List.getElem_cons_zero]))
  (refine wpAnyH_take (i := 3) (oi := _) (v := _) rfl (by decide +kernel) (by decide +kernel) (by decide +kernel) (fun _ _ _ h => h) (Or.inl ⟨by rfl, by (intro w hSw; (try dsimp only at hSw); go_simp; try with_reducible rfl)⟩) (by assumption) ?_; (try simp only [Act.put, List.setIfInBounds_toArray, List.set_cons_zero, List.set_cons_succ, List.getElem_toArray, List.getElem_cons_succ, List.getElem_cons_zero]))
  refine wpAnyH_ready (rs := [4]) (by decide +kernel) (by simp) ?_
  refine AllReadyH.cons (o := _) rfl (fun K hK => ?_) AllReadyH.nil
  go_simp; go_at_call 17; refine (least_any _).mono ?_; rintro e w' ⟨rfl, rfl⟩; go_wp2_with fail
  refine hK.out _ _ (by (try dsimp only); exact hHeld) (fun hNew => ?_); clear hK K; clear hHeld; have hHeld := hNew; clear hNew
  (try simp only [Act.put, List.setIfInBounds_toArray, List.set_cons_zero, List.set_cons_succ, List.getElem_toArray, List.getElem_cons_succ, List.getElem_cons_zero])
  refine wpAnyH_ready (rs := [5]) (by decide +kernel) (by simp) ?_
  refine AllReadyH.cons (o := _) rfl (fun K hK => ?_) AllReadyH.nil
  go_simp
  refine hK.out _ _ (by (try dsimp only); exact ⟨(But.refl _ _).drewN _, hHeld.2⟩) (fun hNew => ?_); clear hK K; clear hHeld; have hHeld := hNew; clear hNew
  (try simp only [Act.put, List.setIfInBounds_toArray, List.set_cons_zero, List.set_cons_succ, List.getElem_toArray, List.getElem_cons_succ, List.getElem_cons_zero])
  (refine wpAnyH_take (i := 6) (oi := _) (v := _) rfl (by decide +kernel) (by decide +kernel) (by decide +kernel) (fun _ _ _ h => h) (Or.inl ⟨by rfl, by (intro w hSw; (try dsimp only at hSw); go_simp; try with_reducible rfl)⟩) (by assumption) ?_; (try simp only [Act.put, List.setIfInBounds_toArray, List.set_cons_zero, List.set_cons_succ, List.getElem_toArray, List.getElem_cons_succ, List.getElem_cons_zero]))
  (refine wpAnyH_take (i := 7) (oi := _) (v := _) rfl (by decide +kernel) (by decide +kernel) (by decide +kernel) (fun _ _ _ h => h) (Or.inl ⟨by rfl, by (intro w hSw; (try dsimp only at hSw); go_simp; try with_reducible rfl)⟩) (by assumption) ?_; (try simp only [Act.put, List.setIfInBounds_toArray, List.set_cons_zero, List.set_cons_succ, List.getElem_toArray, List.getElem_cons_succ, List.getElem_cons_zero]))
  refine wpAnyH_ready (rs := [8]) (by decide +kernel) (by simp) ?_
  refine AllReadyH.cons (o := _) rfl (fun K hK => ?_) AllReadyH.nil
  go_simp
  refine hK.out _ _ (by (try dsimp only); exact hHeld) (fun hNew => ?_); clear hK K; clear hHeld; have hHeld := hNew; clear hNew
  (try simp only [Act.put, List.setIfInBounds_toArray, List.set_cons_zero, List.set_cons_succ, List.getElem_toArray, List.getElem_cons_succ, List.getElem_cons_zero])
  refine wpAnyH_ready (rs := [9]) (by decide +kernel) (by simp) ?_
  refine AllReadyH.cons (o := _) rfl (fun K hK => ?_) AllReadyH.nil
  go_simp
  refine hK.out _ _ (by (try dsimp only); exact hHeld) (fun hNew => ?_); clear hK K; clear hHeld; have hHeld := hNew; clear hNew
  (try simp only [Act.put, List.setIfInBounds_toArray, List.set_cons_zero, List.set_cons_succ, List.getElem_toArray, List.getElem_cons_succ, List.getElem_cons_zero])
  refine wpAnyH_ready (rs := [10]) (by decide +kernel) (by simp) ?_
  refine AllReadyH.cons (o := _) rfl (fun K hK => ?_) AllReadyH.nil
  go_simp
  refine hK.out _ _ (by (try dsimp only); exact hHeld) (fun hNew => ?_); clear hK K; clear hHeld; have hHeld := hNew; clear hNew
  (try simp only [Act.put, List.setIfInBounds_toArray, List.set_cons_zero, List.set_cons_succ, List.getElem_toArray, List.getElem_cons_succ, List.getElem_cons_zero])
  refine wpAnyH_ready (rs := [11]) (by decide +kernel) (by simp) ?_
  refine AllReadyH.cons (o := _) rfl (fun K hK => ?_) AllReadyH.nil
  go_simp
  refine hK.out _ _ (by (try dsimp only); exact hHeld) (fun hNew => ?_); clear hK K; clear hHeld; have hHeld := hNew; clear hNew
  (try simp only [Act.put, List.setIfInBounds_toArray, List.set_cons_zero, List.set_cons_succ, List.getElem_toArray, List.getElem_cons_succ, List.getElem_cons_zero])
  refine wpAnyH_ready (rs := [12]) (by decide +kernel) (by simp) ?_
  refine AllReadyH.cons (o := _) rfl (fun K hK => ?_) AllReadyH.nil
  go_simp
  refine hK.out _ _ (by (try dsimp only); exact hHeld) (fun hNew => ?_); clear hK K; clear hHeld; have hHeld := hNew; clear hNew
  (try simp only [Act.put, List.setIfInBounds_toArray, List.set_cons_zero, List.set_cons_succ, List.getElem_toArray, List.getElem_cons_succ, List.getElem_cons_zero])
  refine wpAnyH_ready (rs := [13]) (by decide +kernel) (by simp) ?_
  refine AllReadyH.cons (o := _) rfl (fun K hK => ?_) AllReadyH.nil
  go_simp
  refine hK.out _ _ (by (try dsimp only); exact hHeld) (fun hNew => ?_); clear hK K; clear hHeld; have hHeld := hNew; clear hNew
  (try simp only [Act.put, List.setIfInBounds_toArray, List.set_cons_zero, List.set_cons_succ, List.getElem_toArray, List.getElem_cons_succ, List.getElem_cons_zero])
  refine wpAnyH_ready (rs := [14]) (by decide +kernel) (by simp) ?_
  refine AllReadyH.cons (o := _) rfl (fun K hK => ?_) AllReadyH.nil
  go_simp
  refine hK.out _ _ (by (try dsimp only); exact hHeld) (fun hNew => ?_); clear hK K; clear hHeld; have hHeld := hNew; clear hNew
  (try simp only [Act.put, List.setIfInBounds_toArray, List.set_cons_zero, List.set_cons_succ, List.getElem_toArray, List.getElem_cons_succ, List.getElem_cons_zero])
  refine wpAnyH_ready (rs := [15]) (by decide +kernel) (by simp) ?_
  refine AllReadyH.cons (o := _) rfl (fun K hK => ?_) AllReadyH.nil
  go_simp
  refine hK.out _ _ (by (try dsimp only); exact hHeld) (fun hNew => ?_); clear hK K; clear hHeld; have hHeld := hNew; clear hNew
  (try simp only [Act.put, List.setIfInBounds_toArray, List.set_cons_zero, List.set_cons_succ, List.getElem_toArray, List.getElem_cons_succ, List.getElem_cons_zero])
  refine wpAnyH_ready (rs := [16]) (by decide +kernel) (by simp) ?_
  refine AllReadyH.cons (o := _) rfl (fun K hK => ?_) AllReadyH.nil
  go_simp
  refine hK.out _ _ (by (try dsimp only); exact hHeld) (fun hNew => ?_); clear hK K; clear hHeld; have hHeld := hNew; clear hNew
  (try simp only [Act.put, List.setIfInBounds_toArray, List.set_cons_zero, List.set_cons_succ, List.getElem_toArray, List.getElem_cons_succ, List.getElem_cons_zero])
  refine wpAnyH_ready (rs := [17]) (by decide +kernel) (by simp) ?_
  refine AllReadyH.cons (o := _) rfl (fun K hK => ?_) AllReadyH.nil
  go_simp
  refine hK.out _ _ (by (try dsimp only); exact hHeld) (fun hNew => ?_); clear hK K; clear hHeld; have hHeld := hNew; clear hNew
  (try simp only [Act.put, List.setIfInBounds_toArray, List.set_cons_zero, List.set_cons_succ, List.getElem_toArray, List.getElem_cons_succ, List.getElem_cons_zero])
  refine wpAnyH_ready (rs := [18]) (by decide +kernel) (by simp) ?_
  refine AllReadyH.cons (o := _) rfl (fun K hK => ?_) AllReadyH.nil
  go_simp
  refine hK.out _ _ (by (try dsimp only); exact hHeld) (fun hNew => ?_); clear hK K; clear hHeld; have hHeld := hNew; clear hNew
  (try simp only [Act.put, List.setIfInBounds_toArray, List.set_cons_zero, List.set_cons_succ, List.getElem_toArray, List.getElem_cons_succ, List.getElem_cons_zero])
  refine wpAnyH_ready (rs := [19]) (by decide +kernel) (by simp) ?_
  refine AllReadyH.cons (o := _) rfl (fun K hK => ?_) AllReadyH.nil
  go_simp
  refine hK.out _ _ (by (try dsimp only); exact hHeld) (fun hNew => ?_); clear hK K; clear hHeld; have hHeld := hNew; clear hNew
  (try simp only [Act.put, List.setIfInBounds_toArray, List.set_cons_zero, List.set_cons_succ, List.getElem_toArray, List.getElem_cons_succ, List.getElem_cons_zero])
  refine wpAnyH_ready (rs := [20]) (by decide +kernel) (by simp) ?_
  refine AllReadyH.cons (o := _) rfl (fun K hK => ?_) AllReadyH.nil
  go_simp
  refine hK.out _ _ (by (try dsimp only); exact hHeld) (fun hNew => ?_); clear hK K; clear hHeld; have hHeld := hNew; clear hNew
  (try simp only [Act.put, List.setIfInBounds_toArray, List.set_cons_zero, List.set_cons_succ, List.getElem_toArray, List.getElem_cons_succ, List.getElem_cons_zero])
  refine wpAnyH_ready (rs := [21]) (by decide +kernel) (by simp) ?_
  refine AllReadyH.cons (o := _) rfl (fun K hK => ?_) AllReadyH.nil
  go_simp
  refine hK.out _ _ (by (try dsimp only); exact hHeld) (fun hNew => ?_); clear hK K; clear hHeld; have hHeld := hNew; clear hNew
  (try simp only [Act.put, List.setIfInBounds_toArray, List.set_cons_zero, List.set_cons_succ, List.getElem_toArray, List.getElem_cons_succ, List.getElem_cons_zero])
  refine wpAnyH_ready (rs := [22]) (by decide +kernel) (by simp) ?_
  refine AllReadyH.cons (o := _) rfl (fun K hK => ?_) AllReadyH.nil
  go_simp
  refine hK.out _ _ (by (try dsimp only); exact hHeld) (fun hNew => ?_); clear hK K; clear hHeld; have hHeld := hNew; clear hNew
  (try simp only [Act.put, List.setIfInBounds_toArray, List.set_cons_zero, List.set_cons_succ, List.getElem_toArray, List.getElem_cons_succ, List.getElem_cons_zero])
  refine wpAnyH_done (by decide +kernel) ?_ _
  refine NoPanic.normal ?_; (try simp only [Exit.then])

  have hI : But [] w (w28.drewN (1 + nn)) := hH.drewN _
  clear hHeld hy28
  have hgrd29 : Grd (w28.drewN (1 + nn)) bd bc bp bq bp2 0 true true true 0 (4611686018427387904, 0) (fun _ => Z0) (fun _ => Z0) := hgrd28.keep ((But.refl [] w28).drewN _) (by simp) (by simp) (by simp) (by simp) (by simp)
  have hs29 : w28.heap.size = (w28.drewN (1 + nn)).heap.size := rfl
  have cl29 := hgrd28.cas.cl
  obtain ⟨gr1, A1, kx1, hblk1, _⟩ := hgrd28.blk
  have dl29 : bd < w28.heap.size := (Array.getElem?_eq_some_iff.1 hblk1).1
  have hz28 := hH.size
  clear hblk1 hgrd28 hH ar1
  generalize w28.drewN (1 + nn) = w29 at *
  go_wp2_with fail
  have hba : But [] w29 (w29.alloc (.cells #[.complex .f64 1 9218868437227405312] 26)) := (But.refl _ _).alloc _
  refine (grun_any bd bc bp bq bp2 0 w29.heap.size 0 1 1 true true true 0 (by omega) (some ⟨w29.heap.size, 0, none⟩) (fun _ => rfl) (by omega) (4611686018427387904, 0) (fun _ => (1, 9218868437227405312)) (fun _ => Z0) _ _ (one_rc w29 1 9218868437227405312 _ (by simp [wf]) (by decide)) (by omega) (hgrd29.keep hba (by simp) (by simp) (by simp) (by simp) (by simp))).mono ?_
  rintro e w30 ⟨v, bq', rfl, hor, hbq', hgrd30, hb30⟩
  rw [b_n, cnt_zero (by omega)] at hgrd30
  have hJ : But [] w w30 := (hI.trans hba).then hb30 (fun i hi hm => by simp at hm; omega)
  clear hI hba hb30 hgrd29
  rcases hor.form with ⟨_, h⟩ | ⟨bv3, kv3, rfl, hbv3, hkv3, hoc3⟩
  · omega
  obtain ⟨x, hx, wx, ex⟩ := hoc3.rc.one 0 (by omega)
  rw [b_y] at ex
  have ex1 : nan x.1 = true := by
    have h : cn x.1 = cn NQ := congrArg Prod.fst ex
    cases hn : nan x.1
    · rw [cn_num hn] at h; rw [h] at hn; revert hn; decide
    · rfl
  have ex2 : x.2 = 9218868437227405312 := cn_eq (congrArg Prod.snd ex) (by decide)
  have EX1 := Lib.hid ex1
  rw [ex2] at hx
  have wx1 := wx.1
  clear hor ex ex1 hoc3 wx ex2
  go_wp2_with fail
  refine (isnan_any x.1 wx1 _).mono ?_
  rintro e w31 ⟨rfl, rfl⟩
  rw [EX1.out]
  go_wp2_with fail
  refine (isinf1_any 9218868437227405312 (by omega) _).mono ?_
  rintro e w32 ⟨rfl, rfl⟩
  rw [show decide ((9218868437227405312 : Nat) = INF) = true by decide]
  go_wp2_with fail
  refine (gchanged_any bd bc bp bq' bp2 0 true true true _ (4611686018427387904, 0) (fun _ => Z0) _ _ hgrd30).mono ?_
  rintro e w33 ⟨rfl, rfl⟩
  go_wp2_with fail
  refine (gnil_run _ _).mono ?_
  rintro e w34 ⟨rfl, hb34⟩
  go_wp2_with fail
  refine (gnil_changed _).mono ?_
  rintro e w35 ⟨rfl, rfl⟩
  go_wp2_with fail
  refine (gnil_states _).mono ?_
  rintro e w36 ⟨rfl, rfl⟩
  go_wp2_with fail
  go_ret
  exact ⟨rfl, (hJ.alloc _).trans hb34⟩
end Go.Proofs.YtnmpofjegepmaaaDoor
