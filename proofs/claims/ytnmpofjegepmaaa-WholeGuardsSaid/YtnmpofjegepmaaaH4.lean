/- WholeGuards: the walk. -/
import Derived.Test.YtnmpofjegepmaaaH3
namespace Go.Proofs.Ytnmpofjegepmaaa
open Go.RowKit Go.Proofs.Ytnmpofjegepmaaa.Fl Go.Proofs.Ytnmpofjegepmaaa.Pt

theorem inf_any (w : World) : Calls Try.prog 32 #[.int .i64 (-1)] w fun e w' => e = .returned (.float .f64 18442240474082181120) ∧ w' = w := by
  go_enter Try.func32, Try.ntmps32
  go_wp2
  go_ret
  exact ⟨rfl, rfl⟩
theorem clip_a : clF false true false 18442240474082181120 = 18442240474082181119 := by decide +kernel
theorem clip_b : clF false true false 4611686018427387904 = 4611686018427387904 := by decide +kernel
theorem clip_n : clN false true false (18442240474082181120, 4611686018427387904) = 1 := by decide +kernel
theorem z0_neat : Neat Z0 := by unfold Neat; decide +kernel

set_option linter.unusedSimpArgs false in
set_option maxHeartbeats 1000000 in
set_option maxRecDepth 100000 in
theorem guards_any (lb lo nl kl bb bo nb kb : Nat) (L B : Option Addr) (f cl mu : Bool) (w : World) (hL : 0 < nl → L = some ⟨lb, lo, none⟩) (hB : 0 < nb → B = some ⟨bb, bo, none⟩)
    (rl : R8 w lb lo nl) (rb : RU w bb bo nb) (ml : nl ≤ 9223372036854775807) (mb : nb ≤ 17592186044416) :
    Calls Try.prog 6 #[.slice L nl kl, .slice B nb kb, .bool f, .bool cl, .bool mu] w fun e w' => e = .returned (.bool true) ∧ But [] w w' := by
  have HL := Lib.hid hL
  have HB := Lib.hid hB
  clear hL hB
  go_enter Try.func6, Try.ntmps6
  go_wp2_with fail
  refine (works_full lb lo nl kl L w HL.out rl ml).mono ?_
  rintro e w1 ⟨A, fb, fk, n, Sc, rfl, hm4, hA, hsec, hpl, hAK, hb1⟩
  have HA := Lib.hid hA
  have HAK := Lib.hid hAK
  clear hA HL rl hAK
  obtain ⟨w2, hw2, hb2, hF, hG⟩ : ∃ w2, (w1.alloc (.cells #[.complex .f64 4604930618986332160 4602678819172646912, .slice A n fk] 28)).alloc (.cells #[.bool f, .bool cl, .bool mu] 57) = w2 ∧ But [] w1 w2 ∧ w2.heap[w1.heap.size]? = some (.cells #[.complex .f64 4604930618986332160 4602678819172646912, .slice A n fk] 28 (0, 0)) ∧ w2.heap[w1.heap.size + 1]? = some (.cells #[.bool f, .bool cl, .bool mu] 57 (0, 0)) :=
    ⟨_, rfl, ((But.refl _ _).alloc _).alloc _, (Below.heap_alloc _ _ _ (by simp)).trans (heap_alloc_new w1 _), by have := heap_alloc_new (w1.alloc (.cells #[.complex .f64 4604930618986332160 4602678819172646912, .slice A n fk] 28)) (.cells #[.bool f, .bool cl, .bool mu] 57); simpa using this⟩
  have HW2 := Lib.hid hw2
  clear hw2
  go_wp2_with fail
  rw [HW2.out]
  clear HW2
  generalize hFe : w1.heap.size = F at *
  have HFE := Lib.hid hFe
  clear hFe
  refine (raw_any bb bo nb kb B w2 HB.out ((rb.keep hb1 (by simp)).keep hb2 (by simp)) mb).mono ?_
  rintro e w3 ⟨v, xs, rfl, hor, hb3⟩
  generalize hme : nb / 2 = m at *
  have hm8 : m ≤ 8796093022208 := by omega
  obtain ⟨X, gx, cx, rfl, hcx, hX, hxrc, hgx⟩ := hor.shape3
  rw [Nat.mul_one] at hxrc
  have HX := Lib.hid hX
  have hGl : F + 1 < w2.heap.size := (Array.getElem?_eq_some_iff.1 hG).1
  obtain ⟨gx, hgx3, HXX, hx⟩ : ∃ g, g < w3.heap.size ∧ Hid (0 < m → X = some ⟨g, 0, none⟩) ∧ RC w3 g 0 m xs := by
    by_cases h0 : m = 0
    · exact ⟨F, by have := hb3.size; omega, fun h => by omega, fun j hj => by omega⟩
    · obtain ⟨_, h1, _⟩ := hxrc 0 (by omega)
      exact ⟨gx, World.block_lt_of_cell? _ _ h1, HX.out, hxrc⟩
  clear HB rb hX HX hxrc hor
  have HF3 := Lib.hid (hb3.heap hF (by simp))
  have HG3 := Lib.hid (hb3.heap hG (by simp))
  have hsec3 := (hsec.keep hb2 (by simp)).keep hb3 (by simp)
  have HFL : Hid (0 < n → fb < w3.heap.size) := Lib.hid fun h => by
    obtain ⟨_, h1, _⟩ := hsec3 0 (by omega)
    exact World.block_lt_of_cell? _ _ h1
  have hgf : FinC GN := by unfold FinC; decide +kernel
  have hgw : wf GN := by simp [wf, GN]
  have hb13 : But [] w w3 := (hb1.trans hb2).trans hb3
  have HPL := Lib.hid hpl
  have cF0 : w3.cell? ⟨F, 0, none⟩ = some (.complex .f64 4604930618986332160 4602678819172646912) := by rw [cell_of_row w3 F 0 _ _ _ HF3.out]; rfl
  have cF1 : w3.cell? ⟨F, 1, none⟩ = some (.slice A n fk) := by rw [cell_of_row w3 F 1 _ _ _ HF3.out]; rfl
  have s3 := hb3.size
  clear hF hG hb1 hb2 hb3 hsec hpl
  go_wp2_with fail
  refine (gnew_any GN GN n fb 0 fk A false false false Sc _ (by decide) hgw hgf (by omega) HAK.out hsec3 HPL.out.fin).mono ?_
  rintro e w4 ⟨do_, co, po, qo, p2o, rfl, hdo, hco, hpo, hqo, hp2o, hgo, hb4⟩
  replace cF0 := hb4.cell cF0 (by simp)
  replace cF1 := hb4.cell cF1 (by simp)
  go_wp2_with fail
  refine (cnew_any GN GN n fb 0 fk A Sc _ (by decide) hgw hgf (by omega) HA.out (hsec3.keep hb4 (by simp)) HPL.out.fin).mono ?_
  rintro e w5 ⟨ca, pa, qa, rfl, hca, hpa, hqa, hcasA, hb5⟩
  replace cF0 := hb5.cell cF0 (by simp)
  replace cF1 := hb5.cell cF1 (by simp)
  go_wp2_with fail
  refine (gnew_any GN GN n fb 0 fk A true true true Sc _ (by decide) hgw hgf (by omega) HAK.out ((hsec3.keep hb4 (by simp)).keep hb5 (by simp)) HPL.out.fin).mono ?_
  rintro e w6 ⟨ds, cs, ps, qs, p2s, rfl, hds, hcs, hps, hqs, hp2s, hgs, hb6⟩
  clear cF0 cF1
  go_wp2_with fail
  refine (inf_any _).mono ?_
  rintro e w6' ⟨rfl, rfl⟩
  go_wp2_with fail
  refine (cleanc_any false true false 18442240474082181120 4611686018427387904 (by omega) (by omega) _).mono ?_
  rintro e w7 ⟨rfl, hb7⟩
  rw [clip_a, clip_b, clip_n]
  have o1 : FloatKind.f64.format.order 18442240474082181119 18442240474082181119 = some Ordering.eq := by decide +kernel
  have o2 : FloatKind.f64.format.order 4611686018427387904 4611686018427387904 = some Ordering.eq := by decide +kernel
  go_wp2_with fail
  have hb37 : But [] w3 w7 := ((hb4.trans hb5).trans hb6).trans hb7
  have hb57 : But [] w5 w7 := hb6.trans hb7
  have hgo7 := hgo.keep ((hb5.trans hb6).trans hb7) (by simp) (by simp) (by simp) (by simp) (by simp)
  have hcasA7 := hcasA.keep hb57 (by simp) (by simp) (by simp)
  have hgs7 := hgs.keep hb7 (by simp) (by simp) (by simp) (by simp) (by simp)
  have HF7 := Lib.hid (hb37.heap HF3.out (by simp))
  have HG7 := Lib.hid (hb37.heap HG3.out (by simp))
  have hx7 := hx.keep hb37 (by simp)
  have hsec7 := hsec3.keep hb37 (by simp)
  have s4 := hb4.size
  have s5 := hb5.size
  have s6 := hb6.size
  have s7 := hb7.size
  have gol := hgo.dl
  have goc := hgo.cas.cl
  have gop := hgo.cas.pl
  have goq := hgo.cas.ql
  have gop2 := hgo.p2l
  have al := hcasA.cl
  have apl := hcasA.pl
  have aql := hcasA.ql
  have gsl := hgs.dl
  have gsc := hgs.cas.cl
  have gsp := hgs.cas.pl
  have gsq := hgs.cas.ql
  have gsp2 := hgs.p2l
  have hb07 := hb13.trans hb37
  have s07 := hb13.size
  clear hgo hcasA hgs HF3 HG3 hx hsec3 hb37 hb57 hb4 hb5 hb6 hb7 hb13 o1 o2
  refine (grun_any do_ co po qo p2o n gx 0 m cx false false false 0 (by omega) X HXX.out hm8 GN xs Sc _ w7 hx7 (by omega) hgo7).mono ?_
  rintro e w8 ⟨v, qo', rfl, horO, hqo', hgo8, hb8⟩
  rw [qNs_open, qSs_open, cnt_zero (by omega)] at hgo8
  replace horO := horO.congr (ys := Ys n GN Sc (fun _ => Z0) xs) fun j _ => qYs_open n GN Sc _ xs j
  obtain ⟨V0, vb, vk, rfl, hV, hvrc, hvb⟩ := horO.shape2
  have HV := Lib.hid hV
  rw [Nat.mul_one] at hvrc
  have s8 := hb8.size
  have hcasA8 := hcasA7.keep hb8 (by simp; omega) (by simp; omega) (by simp; omega)
  have hgs8 := hgs7.keep hb8 (by simp; omega) (by simp; omega) (by simp; omega) (by simp; omega) (by simp; omega)
  have HF8 := Lib.hid (hb8.heap HF7.out (by simp; omega))
  have HG8 := Lib.hid (hb8.heap HG7.out (by simp; omega))
  have hx8 := hx7.keep hb8 (by simp; omega)
  clear horO hV hgo7 hcasA7 hgs7 HF7 HG7 hx7
  go_wp2_with fail
  refine (crun_any ca pa qa n gx 0 m cx X (or_of HXX.out) (by omega) GN xs Sc _ _ hx8 (by omega) hcasA8).mono ?_
  rintro e w9 ⟨rfl, hb9, hoc9, hcasA9⟩
  have s9 := hb9.size
  have hgo9 := hgo8.keep hb9 (by simp; omega) (by simp; omega) (by simp; omega) (by simp; omega) (by simp; omega)
  have hgs9 := hgs8.keep hb9 (by simp; omega) (by simp; omega) (by simp; omega) (by simp; omega) (by simp; omega)
  have HF9 := Lib.hid (hb9.heap HF8.out (by simp; omega))
  have HG9 := Lib.hid (hb9.heap HG8.out (by simp; omega))
  have hx9 := hx8.keep hb9 (by simp; omega)
  have hvrc9 := hvrc.keep hb9 (by simp; omega)
  clear hgo8 hgs8 HF8 HG8 hx8 hvrc hcasA8
  go_wp2_with fail
  refine (lists_any V0 (some ⟨w8.heap.size, 0, none⟩) vb 0 w8.heap.size 0 m vk m (by omega) (or3 HV.out (fun _ => rfl)) (Ys n GN Sc (fun _ => Z0) xs) _ hvrc9 hoc9.rc).mono ?_
  rintro e w10 ⟨rfl, hb10⟩
  have hgo10 := hgo9.keep hb10 (by simp) (by simp) (by simp) (by simp) (by simp)
  go_wp2_with fail
  refine (gchanged_any do_ co po qo' p2o n false false false 0 GN Sc _ _ hgo10).mono ?_
  rintro e w10' ⟨rfl, rfl⟩
  go_wp2_with fail
  refine (gstates_any do_ co po qo' p2o n false false false 0 GN Sc _ _ hgo10).mono ?_
  rintro e w11 ⟨sb, sk, rfl, hsk, hsb, hos, hb11⟩
  have hcasA11 := (hcasA9.keep hb10 (by simp) (by simp) (by simp)).keep hb11 (by simp) (by simp) (by simp)
  go_wp2_with fail
  refine (cstates_any ca pa qa n GN Sc _ _ hcasA11).mono ?_
  rintro e w12 ⟨v2, rfl, ⟨sb2, sk2, rfl, hsk2, hsb2, hos2⟩, hb12⟩
  go_wp2_with fail
  refine (tstates_any (some ⟨sb, 0, none⟩) (some ⟨sb2, 0, none⟩) sb 0 sb2 0 n sk sk2 (by omega) (or3 (fun _ => rfl) (fun _ => rfl)) (Ss n GN Sc (fun _ => Z0) xs m) _ (hos.rc.keep hb12 (by simp)) hos2.rc).mono ?_
  rintro e w13 ⟨rfl, hb14⟩
  have hbE : But [] w9 w13 := ((hb10.trans hb11).trans hb12).trans hb14
  have hgs13 := hgs9.keep hbE (by simp) (by simp) (by simp) (by simp) (by simp)
  have HF13 := Lib.hid (hbE.heap HF9.out (by simp))
  have HG13 := Lib.hid (hbE.heap HG9.out (by simp))
  have hx13 := hx9.keep hbE (by simp)
  have hsec13 : RC w13 fb 0 (n * 5) Sc := by
    rcases Nat.eq_zero_or_pos n with h | h
    · exact fun j hj => by omega
    · have := HFL.out h
      exact ((hsec7.keep hb8 (by simp; omega)).keep hb9 (by simp; omega)).keep hbE (by simp)
  have hb0 : But [] w w13 := ((hb07.then hb8 (fun i hi hm => by simp at hm; omega)).then hb9 (fun i hi hm => by simp at hm; omega)).trans hbE
  have s13 := hbE.size
  clear hsec7 hgo9 hgo10 hgs9 HF9 HG9 hx9 hvrc9 hcasA9 hcasA11 hoc9 hos hos2 hb10 hb11 hb12 hb14 hbE hb8 hb9 hb07 hqo' hsb hsb2 hvb
  go_wp2_with fail
  go_loopw [22] (fun i wr => ∃ k : Nat, k ≤ m ∧ i = .int .i64 k ∧ But [] w13 wr) (fun i _ => m - (intOf i).toNat)
  case atStart => exact ⟨0, Nat.zero_le _, rfl, But.refl _ _⟩
  case round =>
    obtain ⟨k, hk, rfl, hbt⟩ := hrel
    by_cases hlt : k < m
    · obtain rfl := HXX.out (by omega)
      obtain ⟨xr, hxr, wx, ex⟩ := hx13.keep hbt (by simp) k hlt
      unfold V at hxr
      rw [Nat.zero_add] at hxr
      have hGr := hbt.heap HG13.out (by simp)
      have g0 : wr.cell? ⟨F + 1, 0, none⟩ = some (.bool f) := by rw [cell_of_row wr _ 0 _ _ _ hGr]; rfl
      have g1 : wr.cell? ⟨F + 1, 1, none⟩ = some (.bool cl) := by rw [cell_of_row wr _ 1 _ _ _ hGr]; rfl
      have g2 : wr.cell? ⟨F + 1, 2, none⟩ = some (.bool mu) := by rw [cell_of_row wr _ 2 _ _ _ hGr]; rfl
      have t1' : (k : Int) < m := by omega
      clear hGr ex
      go_upto_region 15 with fail
      refine wp_region_noPanic ?_
      refine wp_region_held_drew (S := fun w' => But [] wr w' ∧ w'.cell? ⟨F + 1, 0, none⟩ = some (.bool f) ∧ w'.cell? ⟨F + 1, 1, none⟩ = some (.bool cl) ∧ w'.cell? ⟨F + 1, 2, none⟩ = some (.bool mu) ∧ w'.cell? ⟨gx, k, none⟩ = some (.complex .f64 xr.1 xr.2)) (by kernel_rfl) ?_ (fun hHeld => ?_)
      · (try dsimp only); exact ⟨(But.refl _ _).drew, g0, g1, g2, hxr⟩
      (refine wpAnyH_take (i := 0) (oi := _) (v := _) rfl (by decide +kernel) (by decide +kernel) (by decide +kernel) (fun _ _ _ h => h) (Or.inl ⟨by rfl, by (intro w hSw; (try dsimp only at hSw); go_simp; try with_reducible rfl)⟩) (by assumption) ?_; (try simp only [Act.put, List.setIfInBounds_toArray, List.set_cons_zero, List.set_cons_succ, List.getElem_toArray, List.getElem_cons_succ, List.getElem_cons_zero]))
      (refine wpAnyH_take (i := 1) (oi := _) (v := _) rfl (by decide +kernel) (by decide +kernel) (by decide +kernel) (fun _ _ _ h => h) (Or.inl ⟨by rfl, by (intro w hSw; (try dsimp only at hSw); go_simp; try with_reducible rfl)⟩) (by assumption) ?_; (try simp only [Act.put, List.setIfInBounds_toArray, List.set_cons_zero, List.set_cons_succ, List.getElem_toArray, List.getElem_cons_succ, List.getElem_cons_zero]))
      (refine wpAnyH_take (i := 2) (oi := _) (v := _) rfl (by decide +kernel) (by decide +kernel) (by decide +kernel) (fun _ _ _ h => h) (Or.inl ⟨by rfl, by (intro w hSw; (try dsimp only at hSw); go_simp; try with_reducible rfl)⟩) (by assumption) ?_; (try simp only [Act.put, List.setIfInBounds_toArray, List.set_cons_zero, List.set_cons_succ, List.getElem_toArray, List.getElem_cons_succ, List.getElem_cons_zero]))
      (refine wpAnyH_take (i := 3) (oi := _) (v := _) rfl (by decide +kernel) (by decide +kernel) (by decide +kernel) (fun _ _ _ h => h) (Or.inl ⟨by rfl, by (intro w hSw; (try dsimp only at hSw); go_simp; try with_reducible rfl)⟩) (by assumption) ?_; (try simp only [Act.put, List.setIfInBounds_toArray, List.set_cons_zero, List.set_cons_succ, List.getElem_toArray, List.getElem_cons_succ, List.getElem_cons_zero]))
      (refine wpAnyH_take (i := 4) (oi := _) (v := _) rfl (by decide +kernel) (by decide +kernel) (by decide +kernel) (fun _ _ _ h => h) (Or.inl ⟨by rfl, by (intro w hSw; (try dsimp only at hSw); go_simp; try with_reducible rfl)⟩) (by assumption) ?_; (try simp only [Act.put, List.setIfInBounds_toArray, List.set_cons_zero, List.set_cons_succ, List.getElem_toArray, List.getElem_cons_succ, List.getElem_cons_zero]))
      refine wpAnyH_ready (rs := [5]) (by decide +kernel) (by simp) ?_
      refine AllReadyH.cons (o := _) rfl (fun K hK => ?_) AllReadyH.nil
      go_simp; go_at_call 28; refine (cleanc_any f cl mu xr.1 xr.2 wx.1 wx.2 _).mono ?_; rintro e wq ⟨rfl, hbq⟩; have hq := hHeld.1.trans hbq; go_wp2_with fail
      refine hK.out _ _ (by (try dsimp only); exact ⟨hq, hbq.cell hHeld.2.1 (by simp), hbq.cell hHeld.2.2.1 (by simp), hbq.cell hHeld.2.2.2.1 (by simp), hbq.cell hHeld.2.2.2.2 (by simp)⟩) (fun hNew => ?_); clear hK K; clear hHeld; have hHeld := hNew; clear hNew
      (try simp only [Act.put, List.setIfInBounds_toArray, List.set_cons_zero, List.set_cons_succ, List.getElem_toArray, List.getElem_cons_succ, List.getElem_cons_zero])
      (refine wpAnyH_take (i := 6) (oi := _) (v := _) rfl (by decide +kernel) (by decide +kernel) (by decide +kernel) (fun _ _ _ h => h) (Or.inl ⟨by rfl, by (intro w hSw; (try dsimp only at hSw); go_simp; try with_reducible rfl)⟩) (by assumption) ?_; (try simp only [Act.put, List.setIfInBounds_toArray, List.set_cons_zero, List.set_cons_succ, List.getElem_toArray, List.getElem_cons_succ, List.getElem_cons_zero]))
      (refine wpAnyH_take (i := 7) (oi := _) (v := _) rfl (by decide +kernel) (by decide +kernel) (by decide +kernel) (fun _ _ _ h => h) (Or.inl ⟨by rfl, by (intro w hSw; (try dsimp only at hSw); go_simp; try with_reducible rfl)⟩) (by assumption) ?_; (try simp only [Act.put, List.setIfInBounds_toArray, List.set_cons_zero, List.set_cons_succ, List.getElem_toArray, List.getElem_cons_succ, List.getElem_cons_zero]))
      (refine wpAnyH_take (i := 8) (oi := _) (v := _) rfl (by decide +kernel) (by decide +kernel) (by decide +kernel) (fun _ _ _ h => h) (Or.inl ⟨by rfl, by (intro w hSw; (try dsimp only at hSw); go_simp; try with_reducible rfl)⟩) (by assumption) ?_; (try simp only [Act.put, List.setIfInBounds_toArray, List.set_cons_zero, List.set_cons_succ, List.getElem_toArray, List.getElem_cons_succ, List.getElem_cons_zero]))
      (refine wpAnyH_take (i := 9) (oi := _) (v := _) rfl (by decide +kernel) (by decide +kernel) (by decide +kernel) (fun _ _ _ h => h) (Or.inl ⟨by rfl, by (intro w hSw; (try dsimp only at hSw); go_simp; try with_reducible rfl)⟩) (by assumption) ?_; (try simp only [Act.put, List.setIfInBounds_toArray, List.set_cons_zero, List.set_cons_succ, List.getElem_toArray, List.getElem_cons_succ, List.getElem_cons_zero]))
      (refine wpAnyH_take (i := 10) (oi := _) (v := _) rfl (by decide +kernel) (by decide +kernel) (by decide +kernel) (fun _ _ _ h => h) (Or.inl ⟨by rfl, by (intro w hSw; (try dsimp only at hSw); go_simp; try with_reducible rfl)⟩) (by assumption) ?_; (try simp only [Act.put, List.setIfInBounds_toArray, List.set_cons_zero, List.set_cons_succ, List.getElem_toArray, List.getElem_cons_succ, List.getElem_cons_zero]))
      refine wpAnyH_done (by decide +kernel) ?_ _
      refine NoPanic.normal ?_; (try simp only [Exit.then])
      clear hHeld hbq
      have hbQ := hbt.trans hq
      replace g0 := hq.cell g0 (by simp)
      replace g1 := hq.cell g1 (by simp)
      replace g2 := hq.cell g2 (by simp)
      replace hxr := hq.cell hxr (by simp)
      clear hbt hq
      have c1 : clN f cl mu (xr.1, xr.2) ≤ 2 := clN_le f cl mu _
      have hsame : clN f cl mu (xr.1, xr.2) = 0 → clC f cl mu xr = xr := clC_same
      have HSM := Lib.hid hsame
      have hN := clN_twice f cl mu xr.1 xr.2
      have h2a := (clF_twice f cl mu xr.1).1
      have h2b := (clF_twice f cl mu xr.2).1
      have HN := Lib.hid hN
      have H2a := Lib.hid h2a
      have H2b := Lib.hid h2b
      clear hsame hN h2a h2b
      generalize hn1 : clN f cl mu (xr.1, xr.2) = N1 at *
      go_wp2_with fail
      refine (cleanc_any f cl mu (clF f cl mu xr.1) (clF f cl mu xr.2) (clF_lt wx.1) (clF_lt wx.2) _).mono ?_
      rintro e w16 ⟨rfl, hb16⟩
      rw [HN.out, H2a.out, H2b.out]
      replace hxr := hb16.cell hxr (by simp)
      have hbR := hbQ.trans hb16
      clear g0 g1 g2
      go_wp2_with fail
      refine (alike_true (clC f cl mu xr) (clC f cl mu xr) (clC_wf wx) (clC_wf wx) rfl _).mono ?_
      rintro e w17 ⟨rfl, rfl⟩
      rcases Nat.eq_zero_or_pos N1 with h0 | h0
      · subst h0
        go_wp2_with fail
        refine (alike_true (clC f cl mu xr) xr (clC_wf wx) wx (by rw [HSM.out trivial]) _).mono ?_
        rintro e w18 ⟨rfl, rfl⟩
        go_wp2_with fail
        exact ⟨⟨k + 1, by omega, by go_num, hbR⟩, by simp [intOf]; omega⟩
      · go_wp2_with fail
        exact ⟨⟨k + 1, by omega, by go_num, hbR⟩, by simp [intOf]; omega⟩
    · obtain rfl : m = k := by omega
      have hgsW := hgs13.keep hbt (by simp) (by simp) (by simp) (by simp) (by simp)
      have hxW := hx13.keep hbt (by simp)
      have sW := hbt.size
      go_wp2_with fail
      refine (grun_any ds cs ps qs p2s n gx 0 m cx true true true 0 (by omega) X HXX.out hm8 GN xs Sc _ wr hxW (by omega) hgsW).mono ?_
      rintro e w20 ⟨v, qs', rfl, horY, hqs', hgs20, hb20⟩
      obtain ⟨Y0, yb, yk, rfl, hY, hyrc, hyb⟩ := horY.shape2
      rw [Nat.mul_one] at hyrc
      have HY := Lib.hid hY
      have s20 := hb20.size
      have HF20 := Lib.hid (hb20.heap (hbt.heap HF13.out (by simp)) (by simp; omega))
      have HG20 := Lib.hid (hb20.heap (hbt.heap HG13.out (by simp)) (by simp; omega))
      have hx20 := hxW.keep hb20 (by simp; omega)
      have hsec20 : RC w20 fb 0 (n * 5) Sc := by
        rcases Nat.eq_zero_or_pos n with h | h
        · exact fun j hj => by omega
        · have := HFL.out h
          exact (hsec13.keep hbt (by simp)).keep hb20 (by simp; omega)
      have hb20W : But [] w w20 := (hb0.trans hbt).then hb20 (fun i hi hm => by simp at hm; omega)
      clear horY hY hgsW hxW hsec13 hgs13 HF13 HG13 hx13
      go_wp2_with fail
      go_loopw [28] (fun i wr => ∃ k : Nat, k ≤ m ∧ i = .int .i64 k ∧ But [] w20 wr) (fun i _ => m - (intOf i).toNat)
      case atStart => exact ⟨0, Nat.zero_le _, rfl, But.refl _ _⟩
      case round =>
        obtain ⟨k2, hk2, rfl, hbt2⟩ := hrel
        have cF1 : wr.cell? ⟨F, 1, none⟩ = some (.slice A n fk) := by rw [cell_of_row _ F 1 _ _ _ (hbt2.heap HF20.out (by simp))]; rfl
        by_cases hlt2 : k2 < m
        · have t2 : (k2 : Int) < m := by omega
          by_cases hn : 0 < n
          · obtain rfl := HY.out (by omega)
            obtain ⟨y, hy, wy, ey⟩ := hyrc.keep hbt2 (by simp) k2 hlt2
            unfold V at hy
            rw [Nat.zero_add] at hy
            have HNe : Hid (Neat y) := Lib.hid (Neat.cc (by rw [ey]; exact qYv_neat _ _ _ _ hn))
            have t3 : (0 : Int) < n := by omega
            clear ey
            go_wp2_with fail
            refine (tclean_any y wy HNe.out _).mono ?_
            rintro e w' ⟨rfl, rfl⟩
            go_wp2_with fail
            exact ⟨⟨k2 + 1, by omega, by go_num, hbt2⟩, by simp [intOf]; omega⟩
          · have t3 : ¬ (0 : Int) < n := by omega
            go_wp2_with fail
            have hgs21 := hgs20.keep hbt2 (by simp) (by simp) (by simp) (by simp) (by simp)
            refine (gstates_any ds cs ps qs' p2s n true true true _ GN Sc _ _ hgs21).mono ?_
            rintro e w21 ⟨sb, sk, rfl, hsk, hsb, hos, hb21⟩
            go_wp2_with fail
            go_loopw [30] (fun i wr => ∃ k : Nat, k ≤ n ∧ i = .int .i64 k ∧ But [] w21 wr) (fun i _ => n - (intOf i).toNat)
            case atStart => exact ⟨0, Nat.zero_le _, rfl, But.refl _ _⟩
            case round =>
              obtain ⟨k3, hk3, rfl, hbt3⟩ := hrel
              by_cases hlt3 : k3 < n
              · omega
              · obtain rfl : n = k3 := by omega
                have hbZ := (hbt2.trans hb21).trans hbt3
                have HFZ := hbZ.heap HF20.out (by simp)
                have HGZ := hbZ.heap HG20.out (by simp)
                have cF0 : wr.cell? ⟨F, 0, none⟩ = some (.complex .f64 4604930618986332160 4602678819172646912) := by rw [cell_of_row _ F 0 _ _ _ HFZ]; rfl
                have cF1 : wr.cell? ⟨F, 1, none⟩ = some (.slice A n fk) := by rw [cell_of_row _ F 1 _ _ _ HFZ]; rfl
                have g0 : wr.cell? ⟨F + 1, 0, none⟩ = some (.bool f) := by rw [cell_of_row _ _ 0 _ _ _ HGZ]; rfl
                have g1 : wr.cell? ⟨F + 1, 1, none⟩ = some (.bool cl) := by rw [cell_of_row _ _ 1 _ _ _ HGZ]; rfl
                have g2 : wr.cell? ⟨F + 1, 2, none⟩ = some (.bool mu) := by rw [cell_of_row _ _ 2 _ _ _ HGZ]; rfl
                clear HFZ HGZ
                go_wp2_with fail
                refine (stepwise_any GN GN n fb fk gx 0 m cx A X f cl mu Sc xs _ (by decide) hgw hgf (by omega) HAK.out (hsec20.keep hbZ (by simp)) HPL.out.fin HXX.out hm8 (hx20.keep hbZ (by simp)) (by have := hbZ.size; omega)).mono ?_
                rintro e w30 ⟨rfl, hb30⟩
                go_wp2_with fail
                go_ret
                exact ⟨rfl, (hb20W.trans hbZ).trans hb30⟩
        · have t2 : ¬ (k2 : Int) < m := by omega
          go_wp2_with fail
          have hgs21 := hgs20.keep hbt2 (by simp) (by simp) (by simp) (by simp) (by simp)
          refine (gstates_any ds cs ps qs' p2s n true true true _ GN Sc _ _ hgs21).mono ?_
          rintro e w21 ⟨sb, sk, rfl, hsk, hsb, hos, hb21⟩
          go_wp2_with fail
          go_loopw [30] (fun i wr => ∃ k : Nat, k ≤ n ∧ i = .int .i64 k ∧ But [] w21 wr) (fun i _ => n - (intOf i).toNat)
          case atStart => exact ⟨0, Nat.zero_le _, rfl, But.refl _ _⟩
          case round =>
            obtain ⟨k3, hk3, rfl, hbt3⟩ := hrel
            by_cases hlt3 : k3 < n
            · obtain ⟨z0, z1, ⟨cz0, cz1⟩, ⟨wz0, wz1⟩, HZ⟩ := (hos.rc.keep hbt3 (by simp)).twoO k3 hlt3
              rw [Nat.zero_add] at cz0 cz1
              have HN0 : Hid (Neat z0) := Lib.hid (Neat.cc (by rw [HZ.out.1]; exact qSs_neat _ _ _ _ _ (fun _ => z0_neat) _ _))
              have HN1 : Hid (Neat z1) := Lib.hid (Neat.cc (by rw [HZ.out.2]; exact qSs_neat _ _ _ _ _ (fun _ => z0_neat) _ _))
              have t3 : (k3 : Int) < n := by omega
              go_wp2_with fail
              refine (tclean_any z0 wz0 HN0.out _).mono ?_
              rintro e w' ⟨rfl, rfl⟩
              go_wp2_with fail
              refine (tclean_any z1 wz1 HN1.out _).mono ?_
              rintro e w' ⟨rfl, rfl⟩
              go_wp2_with fail
              exact ⟨⟨k3 + 1, by omega, by go_num, hbt3⟩, by simp [intOf]; omega⟩
            · obtain rfl : n = k3 := by omega
              have hbZ := (hbt2.trans hb21).trans hbt3
              have HFZ := hbZ.heap HF20.out (by simp)
              have HGZ := hbZ.heap HG20.out (by simp)
              have cF0 : wr.cell? ⟨F, 0, none⟩ = some (.complex .f64 4604930618986332160 4602678819172646912) := by rw [cell_of_row _ F 0 _ _ _ HFZ]; rfl
              have cF1 : wr.cell? ⟨F, 1, none⟩ = some (.slice A n fk) := by rw [cell_of_row _ F 1 _ _ _ HFZ]; rfl
              have g0 : wr.cell? ⟨F + 1, 0, none⟩ = some (.bool f) := by rw [cell_of_row _ _ 0 _ _ _ HGZ]; rfl
              have g1 : wr.cell? ⟨F + 1, 1, none⟩ = some (.bool cl) := by rw [cell_of_row _ _ 1 _ _ _ HGZ]; rfl
              have g2 : wr.cell? ⟨F + 1, 2, none⟩ = some (.bool mu) := by rw [cell_of_row _ _ 2 _ _ _ HGZ]; rfl
              clear HFZ HGZ
              go_wp2_with fail
              refine (stepwise_any GN GN n fb fk gx 0 m cx A X f cl mu Sc xs _ (by decide) hgw hgf (by omega) HAK.out (hsec20.keep hbZ (by simp)) HPL.out.fin HXX.out hm8 (hx20.keep hbZ (by simp)) (by have := hbZ.size; omega)).mono ?_
              rintro e w30 ⟨rfl, hb30⟩
              go_wp2_with fail
              go_ret
              exact ⟨rfl, (hb20W.trans hbZ).trans hb30⟩
end Go.Proofs.Ytnmpofjegepmaaa
