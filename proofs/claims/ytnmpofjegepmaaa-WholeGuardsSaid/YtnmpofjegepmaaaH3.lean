/- stepwise: a guarded filter is its sections' steps. -/
import Derived.Test.YtnmpofjegepmaaaH2
namespace Go.Proofs.Ytnmpofjegepmaaa
open Go.RowKit Go.Proofs.Ytnmpofjegepmaaa.Fl Go.Proofs.Ytnmpofjegepmaaa.Pt

theorem Grd.dl {w : World} {d c p q p2 n : Nat} {f cl m : Bool} {ch : Nat} {g : C} {Sc St : Nat → C} (h : Grd w d c p q p2 n f cl m ch g Sc St) : d < w.heap.size := by
  obtain ⟨_, _, _, hb, _⟩ := h.blk
  exact (Array.getElem?_eq_some_iff.1 hb).1

set_option linter.unusedSimpArgs false in
set_option maxHeartbeats 1000000 in
set_option maxRecDepth 100000 in
theorem stepwise_any (gr g : C) (n fb fk lb lo m lk : Nat) (A L : Option Addr) (f cl mu : Bool) (Sc xs : Nat → C) (w : World) (hg : ccn gr = g) (hgw : wf gr) (hgf : FinC g) (n16 : n ≤ 16) (hAK : (A = none ∧ n = 0 ∧ fk = 0) ∨ (∃ a, A = some a ∧ (0 < n → a = ⟨fb, 0, none⟩))) (hs : RC w fb 0 (n * 5) Sc) (hf : ∀ j, j < n * 5 → FinC (Sc j)) (hL : 0 < m → L = some ⟨lb, lo, none⟩) (hm : m ≤ 8796093022208) (hxs : RC w lb lo m xs) (hlb : lb < w.heap.size) :
    Calls Try.prog 38 #[.agg #[.complex .f64 gr.1 gr.2, .slice A n fk], .agg #[.bool f, .bool cl, .bool mu], .slice L m lk] w fun e w' => e = .returned (.bool true) ∧ But [] w w' := by
  have HAK := Lib.hid hAK
  have HL := Lib.hid hL
  have HGR := Lib.hid hg
  have HA : Hid (0 < n → A = some ⟨fb, 0, none⟩) := Lib.hid fun h => by
    rcases hAK with ⟨_, h0, _⟩ | ⟨a, rfl, ha⟩
    · omega
    · rw [ha h]
  clear hAK hL hg
  obtain ⟨w1, hw1, hb1, hF, hG⟩ : ∃ w1, (w.alloc (.cells #[.complex .f64 gr.1 gr.2, .slice A n fk] 28)).alloc (.cells #[.bool f, .bool cl, .bool mu] 57) = w1 ∧ But [] w w1 ∧ w1.heap[w.heap.size]? = some (.cells #[.complex .f64 gr.1 gr.2, .slice A n fk] 28 (0, 0)) ∧ w1.heap[w.heap.size + 1]? = some (.cells #[.bool f, .bool cl, .bool mu] 57 (0, 0)) :=
    ⟨_, rfl, ((But.refl _ _).alloc _).alloc _, (Below.heap_alloc _ _ _ (by simp)).trans (heap_alloc_new w _), by have := heap_alloc_new (w.alloc (.cells #[.complex .f64 gr.1 gr.2, .slice A n fk] 28)) (.cells #[.bool f, .bool cl, .bool mu] 57); simpa using this⟩
  have HW1 := Lib.hid hw1
  have HF := Lib.hid hF
  have HG := Lib.hid hG
  clear hw1 hF hG
  go_enter Try.func38, Try.ntmps38
  go_wp2_with fail
  rw [HW1.out]
  refine (gnew_any gr g n fb 0 fk A f cl mu Sc _ HGR.out hgw hgf n16 HAK.out (hs.keep hb1 (by simp)) hf).mono ?_
  rintro e w2 ⟨d, c, p, q, p2, rfl, hd, hc, hp, hq, hp2, hgrd, hb2⟩
  have s1 := hb1.size
  have s2 := hb2.size
  go_wp2_with fail
  refine (grun_any d c p q p2 n lb lo m lk f cl mu 0 (by omega) L HL.out hm g xs Sc _ w2 ((hxs.keep hb1 (by simp)).keep hb2 (by simp)) (by omega) hgrd).mono ?_
  rintro e w3 ⟨v, q', rfl, hor, hq', hgrd3, hb3⟩
  have s3 := hb3.size
  obtain ⟨V0, vb, vk, rfl, hV, hvrc, hvb⟩ := hor.shape2
  have HV0 := Lib.hid hV
  rw [Nat.mul_one] at hvrc
  clear hor hV
  have hb13 : But [] w w3 := (hb1.trans hb2).then hb3 (fun i hi hm => by simp at hm; omega)
  have HF3 := Lib.hid (hb3.heap (hb2.heap HF.out (by simp)) (by have := (Array.getElem?_eq_some_iff.1 HF.out).1; simp; omega))
  have HG3 := Lib.hid (hb3.heap (hb2.heap HG.out (by simp)) (by have := (Array.getElem?_eq_some_iff.1 HG.out).1; simp; omega))
  have hBl : w.heap.size + 1 < w1.heap.size := (Array.getElem?_eq_some_iff.1 HG.out).1
  have hs3 := hs.keep hb13 (by simp)
  have hx3 := hxs.keep hb13 (by simp)
  have gdl := hgrd3.dl
  have gcl := hgrd3.cas.cl
  have gpl := hgrd3.cas.pl
  have gql := hgrd3.cas.ql
  have gp2 := hgrd3.p2l
  have hmk : (Instr.makeSlice 50 (.int .i64 (n : Int)) (.int .i64 (n : Int))).run Try.prog w3 = .ok (.slice (some ⟨w3.heap.size, 0, none⟩) n n) (w3.alloc (.cells (madeCells #[.complex .f64 0 0, .complex .f64 0 0] (n * 2)) 71)) := by
    obtain ⟨i, hi, hz, hs, hby⟩ := info_parts Try.info71
    have hr := run_make (P := Try.prog) w3 50 71 i _ Try.underlying50 hi hz .i64 .i64 n n (by omega) (Int.le_refl _) (by rw [hby]; omega) (by omega)
    rw [hs] at hr
    exact hr
  obtain ⟨w4, hw4, hb4, hoc4⟩ : ∃ w4, w3.alloc (.cells (madeCells #[.complex .f64 0 0, .complex .f64 0 0] (n * 2)) 71) = w4 ∧ But [] w3 w4 ∧ OC w4 w3.heap.size 71 (n * 2) (fun _ => Z0) := ⟨_, rfl, (But.refl _ _).alloc _, zeros_oc w3 71 (n * 2) (.inr rfl)⟩
  rw [hw4] at hmk
  clear hw4
  have cF1 : w3.cell? ⟨w.heap.size, 1, none⟩ = some (.slice A n fk) := by rw [cell_of_row w3 _ 1 _ _ _ HF3.out]; rfl
  go_wp2_with fail
  have HF4 := Lib.hid (hb4.heap HF3.out (by simp))
  have HG4 := Lib.hid (hb4.heap HG3.out (by simp))
  have hs4 := hs3.keep hb4 (by simp)
  have hx4 := hx3.keep hb4 (by simp)
  have hv4 := hvrc.keep hb4 (by simp)
  have hgrd4 := hgrd3.keep hb4 (by simp) (by simp) (by simp) (by simp) (by simp)
  have hb14 := hb13.trans hb4
  have s4 := hb4.size
  have hfl : 0 < n → fb < w.heap.size := fun h => by
    obtain ⟨_, h1, _⟩ := hs 0 (by omega)
    exact World.block_lt_of_cell? _ _ h1
  have HFL := Lib.hid hfl
  have hvl : 0 < m → vb < w3.heap.size := fun h => by
    obtain ⟨_, h1, _⟩ := hvrc 0 h
    exact World.block_lt_of_cell? _ _ h1
  have HVL := Lib.hid hvl
  clear hfl hvl hmk cF1 hs3 hx3 hvrc hgrd3 hgrd hs hxs
  generalize hsBe : w3.heap.size = sB at *
  have HSB := Lib.hid hsBe
  clear hsBe
  generalize hBe : w.heap.size = B at *
  have HBE := Lib.hid hBe
  clear hBe
  go_loopw [11, 12] (fun tot i wr => ∃ t N : Nat, t ≤ m ∧ i = .int .i64 t ∧ tot = .int .i64 (N : Int) ∧ Hid (N = qNs f cl mu n g Sc (fun _ => Z0) xs t) ∧ But [sB] w4 wr ∧ OC wr sB 71 (n * 2) (qSs f cl mu n g Sc (fun _ => Z0) xs t)) (fun _ i _ => m - (intOf i).toNat)
  case atStart => exact ⟨0, 0, Nat.zero_le _, rfl, rfl, rfl, But.refl _ _, hoc4⟩
  case round =>
    obtain ⟨t, N, ht, rfl, rfl, HN, hbt, hoc⟩ := hrel
    by_cases hlt : t < m
    · obtain rfl := HL.out (by omega)
      obtain rfl := HV0.out (by omega)
      obtain ⟨xr, hxr, wx, ex⟩ := hx4.keep hbt (by simp; omega) t hlt
      unfold V at hxr
      have EX1 := Lib.hid ex
      have cF0 : wr.cell? ⟨B, 0, none⟩ = some (.complex .f64 gr.1 gr.2) := by rw [cell_of_row wr _ 0 _ _ _ (hbt.heap HF4.out (by simp; omega))]; rfl
      have t1' : (t : Int) < m := by omega
      clear ex
      go_upto_region 10 with fail
      refine wp_region_noPanic ?_
      refine wp_region_held_drew (S := fun w' => But [] wr w' ∧ w'.cell? ⟨B, 0, none⟩ = some (.complex .f64 gr.1 gr.2) ∧ w'.cell? ⟨lb, lo + t, none⟩ = some (.complex .f64 xr.1 xr.2)) (by kernel_rfl) ?_ (fun hHeld => ?_)
      · (try dsimp only); exact ⟨(But.refl _ _).drew, cF0, hxr⟩
      (refine wpAnyH_take (i := 0) (oi := _) (v := _) rfl (by decide +kernel) (by decide +kernel) (by decide +kernel) (fun _ _ _ h => h) (Or.inl ⟨by rfl, by (intro w hSw; (try dsimp only at hSw); go_simp; try with_reducible rfl)⟩) (by assumption) ?_; (try simp only [Act.put, List.setIfInBounds_toArray, List.set_cons_zero, List.set_cons_succ, List.getElem_toArray, List.getElem_cons_succ, List.getElem_cons_zero]))
      (refine wpAnyH_take (i := 1) (oi := _) (v := _) rfl (by decide +kernel) (by decide +kernel) (by decide +kernel) (fun _ _ _ h => h) (Or.inl ⟨by rfl, by (intro w hSw; (try dsimp only at hSw); go_simp; try with_reducible rfl)⟩) (by assumption) ?_; (try simp only [Act.put, List.setIfInBounds_toArray, List.set_cons_zero, List.set_cons_succ, List.getElem_toArray, List.getElem_cons_succ, List.getElem_cons_zero]))
      (refine wpAnyH_take (i := 2) (oi := _) (v := _) rfl (by decide +kernel) (by decide +kernel) (by decide +kernel) (fun _ _ _ h => h) (Or.inl ⟨by rfl, by (intro w hSw; (try dsimp only at hSw); go_simp; try with_reducible rfl)⟩) (by assumption) ?_; (try simp only [Act.put, List.setIfInBounds_toArray, List.set_cons_zero, List.set_cons_succ, List.getElem_toArray, List.getElem_cons_succ, List.getElem_cons_zero]))
      (refine wpAnyH_take (i := 3) (oi := _) (v := _) rfl (by decide +kernel) (by decide +kernel) (by decide +kernel) (fun _ _ _ h => h) (Or.inl ⟨by rfl, by (intro w hSw; (try dsimp only at hSw); go_simp; try with_reducible rfl)⟩) (by assumption) ?_; (try simp only [Act.put, List.setIfInBounds_toArray, List.set_cons_zero, List.set_cons_succ, List.getElem_toArray, List.getElem_cons_succ, List.getElem_cons_zero]))
      (refine wpAnyH_take (i := 4) (oi := _) (v := _) rfl (by decide +kernel) (by decide +kernel) (by decide +kernel) (fun _ _ _ h => h) (Or.inl ⟨by rfl, by (intro w hSw; (try dsimp only at hSw); go_simp; try with_reducible rfl)⟩) (by assumption) ?_; (try simp only [Act.put, List.setIfInBounds_toArray, List.set_cons_zero, List.set_cons_succ, List.getElem_toArray, List.getElem_cons_succ, List.getElem_cons_zero]))
      (refine wpAnyH_take (i := 5) (oi := _) (v := _) rfl (by decide +kernel) (by decide +kernel) (by decide +kernel) (fun _ _ _ h => h) (Or.inl ⟨by rfl, by (intro w hSw; (try dsimp only at hSw); go_simp; try with_reducible rfl)⟩) (by assumption) ?_; (try simp only [Act.put, List.setIfInBounds_toArray, List.set_cons_zero, List.set_cons_succ, List.getElem_toArray, List.getElem_cons_succ, List.getElem_cons_zero]))
      refine wpAnyH_ready (rs := [6]) (by decide +kernel) (by simp) ?_
      refine AllReadyH.cons (o := _) rfl (fun K hK => ?_) AllReadyH.nil
      go_simp; go_at_call 50; refine (mul_any _ _ _ _ _).mono ?_; rintro e w' ⟨re, im, nd, rfl, rfl, l1, l2, e1, e2⟩; have E1 := Lib.hid e1; have E2 := Lib.hid e2; clear e1 e2; go_wp2_with fail
      refine hK.out _ _ (by (try dsimp only); exact ⟨(But.refl [] wr).drewN _, hHeld.2⟩) (fun hNew => ?_); clear hK K; clear hHeld; have hHeld := hNew; clear hNew
      (try simp only [Act.put, List.setIfInBounds_toArray, List.set_cons_zero, List.set_cons_succ, List.getElem_toArray, List.getElem_cons_succ, List.getElem_cons_zero])
      (refine wpAnyH_take (i := 7) (oi := _) (v := _) rfl (by decide +kernel) (by decide +kernel) (by decide +kernel) (fun _ _ _ h => h) (Or.inl ⟨by rfl, by (intro w hSw; (try dsimp only at hSw); go_simp; try with_reducible rfl)⟩) (by assumption) ?_; (try simp only [Act.put, List.setIfInBounds_toArray, List.set_cons_zero, List.set_cons_succ, List.getElem_toArray, List.getElem_cons_succ, List.getElem_cons_zero]))
      refine wpAnyH_done (by decide +kernel) ?_ _
      refine NoPanic.normal ?_; (try simp only [Exit.then])
      have hbD : But [sB] w4 (wr.drewN (1 + nd)) := hbt.drewN _
      have hocD : OC (wr.drewN (1 + nd)) sB 71 (n * 2) (qSs f cl mu n g Sc (fun _ => Z0) xs t) := hoc
      clear hHeld hbt hoc hxr cF0
      generalize wr.drewN (1 + nd) = W1 at *
      generalize hS : qSs f cl mu n g Sc (fun _ => Z0) xs t = S0 at *
      have HS := Lib.hid hS
      clear hS
      have hNB : N ≤ t * 96 := by rw [HN.out]; exact qNs_le f cl mu n n16 g Sc _ xs t
      go_wp2_with fail
      go_loopw [11, 13, 14] (fun tot y j wr => ∃ (k M : Nat) (vr : C), k ≤ n ∧ j = .int .i64 k ∧ tot = .int .i64 (M : Int) ∧ Hid (M = N + qN f cl mu g Sc S0 (xs t) k) ∧ y = .complex .f64 vr.1 vr.2 ∧ wf vr ∧ Hid (ccn vr = qYv f cl mu g Sc S0 (xs t) k) ∧ But [sB] W1 wr ∧ OC wr sB 71 (n * 2) (qTv f cl mu g Sc S0 (xs t) k)) (fun _ _ j _ => n - (intOf j).toNat)
      case atStart =>
        refine ⟨0, N, (re, im), Nat.zero_le _, rfl, rfl, rfl, rfl, ⟨l1, l2⟩, ?_, But.refl _ _, hocD.congr fun j _ => (qTv_at _ _ _ _ _ _ _ 0 j (by omega)).symm⟩
        show ccn (re, im) = cmul g (xs t)
        rw [← HGR.out, ← EX1.out, cmul_cc]; unfold ccn; rw [E1.out, E2.out]; rfl
      case round =>
        obtain ⟨k, M, vr, hk, rfl, rfl, HM, rfl, hvw, HV, hb1', hoc1⟩ := hrel
        have hbW := hbD.trans hb1'
        have HFr := Lib.hid (hbW.heap HF4.out (by simp; omega))
        have HGr := Lib.hid (hbW.heap HG4.out (by simp; omega))
        have cF1 : wr.cell? ⟨B, 1, none⟩ = some (.slice A n fk) := by rw [cell_of_row wr _ 1 _ _ _ HFr.out]; rfl
        by_cases hlk : k < n
        · obtain rfl := HA.out (by omega)
          have hfB := HFL.out (by omega)
          obtain ⟨s0, s1, s2, s3, s4, ⟨a0, a1, a2, a3, a4⟩, HSC⟩ := (hs4.keep hbW (by simp; omega)).five k hlk
          obtain ⟨t0, t1, ⟨b0, b1⟩, ⟨f0, f1⟩, HT⟩ := hoc1.two k hlk
          have t1' : (k : Int) < n := by omega
          have hMB : M ≤ 1000000000000000 := by rw [HM.out]; have := qN_le f cl mu g Sc S0 (xs t) k; omega
          go_upto_region 14 with fail
          have sw := hbW.size
          have hsl1 := hoc1.lt
          go_cut [15, 16] from 51 to 105 (fun s15 s16 wx => ∃ (y z1 z2 : C) (T : Nat), s15 = .complex .f64 y.1 y.2 ∧ s16 = .pointer (some ⟨T, 0, none⟩) ∧ But [] wr wx ∧ wx.cell? ⟨T, 0, none⟩ = some (.complex .f64 z1.1 z1.2) ∧ wx.cell? ⟨T, 1, none⟩ = some (.complex .f64 z2.1 z2.2) ∧ wf y ∧ wf z1 ∧ wf z2 ∧ T ≠ sB ∧ Hid (ccn y = sy (ccn s0) (ccn t0) (ccn vr) ∧ ccn z1 = st1 (ccn s1) (ccn s3) (ccn t1) (ccn vr) (ccn y) ∧ ccn z2 = st2 (ccn s2) (ccn s4) (ccn vr) (ccn y)))
          case rest =>
            obtain ⟨y, z1, z2, T, rfl, rfl, hbx, x0, x1, wy, wz1, wz2, hTs, HY⟩ := hcut
            have hoc2 := hoc1.keep hbx (by simp)
            have hGx := hbx.heap HGr.out (by simp)
            have g0 : wc.cell? ⟨B + 1, 0, none⟩ = some (.bool f) := by rw [cell_of_row wc _ 0 _ _ _ hGx]; rfl
            have g1 : wc.cell? ⟨B + 1, 1, none⟩ = some (.bool cl) := by rw [cell_of_row wc _ 1 _ _ _ hGx]; rfl
            have g2 : wc.cell? ⟨B + 1, 2, none⟩ = some (.bool mu) := by rw [cell_of_row wc _ 2 _ _ _ hGx]; rfl
            have hb2' := hb1'.then hbx (by simp)
            have HBX := Lib.hid hbx
            clear hGx hbx hb1' hoc1 a0 a1 a2 a3 a4 b0 b1 f0 f1 cF1
            go_wp2_with fail
            refine (cleanc_any f cl mu y.1 y.2 wy.1 wy.2 _).mono ?_
            rintro e w5 ⟨rfl, hb5⟩
            replace x0 := hb5.cell x0 (by simp)
            replace x1 := hb5.cell x1 (by simp)
            replace g0 := hb5.cell g0 (by simp)
            replace g1 := hb5.cell g1 (by simp)
            replace g2 := hb5.cell g2 (by simp)
            go_wp2_with fail
            refine (cleanc_any f cl mu z1.1 z1.2 wz1.1 wz1.2 _).mono ?_
            rintro e w6 ⟨rfl, hb6⟩
            replace x1 := hb6.cell x1 (by simp)
            replace g0 := hb6.cell g0 (by simp)
            replace g1 := hb6.cell g1 (by simp)
            replace g2 := hb6.cell g2 (by simp)
            go_wp2_with fail
            refine (cleanc_any f cl mu z2.1 z2.2 wz2.1 wz2.2 _).mono ?_
            rintro e w7 ⟨rfl, hb7⟩
            have c1 : clN f cl mu (y.1, y.2) ≤ 2 := clN_le f cl mu _
            have c2 : clN f cl mu (z1.1, z1.2) ≤ 2 := clN_le f cl mu _
            have c3 : clN f cl mu (z2.1, z2.2) ≤ 2 := clN_le f cl mu _
            generalize hn1 : clN f cl mu (y.1, y.2) = N1 at *
            generalize hn2 : clN f cl mu (z1.1, z1.2) = N2 at *
            generalize hn3 : clN f cl mu (z2.1, z2.2) = N3 at *
            have e1 : IntKind.i64.wrap ((N1 : Int) + (N2 : Int)) = ((N1 + N2 : Nat) : Int) := (IntWalk.i64_in _ (by omega)).trans (by omega)
            have e2 : IntKind.i64.wrap (((N1 + N2 : Nat) : Int) + (N3 : Int)) = ((N1 + N2 + N3 : Nat) : Int) := (IntWalk.i64_in _ (by omega)).trans (by omega)
            have e3 : IntKind.i64.wrap ((M : Int) + ((N1 + N2 + N3 : Nat) : Int)) = ((M + (N1 + N2 + N3) : Nat) : Int) := (IntWalk.i64_in _ (by omega)).trans (by omega)
            have hoc7 := ((hoc2.keep hb5 (by simp)).keep hb6 (by simp)).keep hb7 (by simp)
            obtain ⟨_, _, ⟨y0, y1⟩, ⟨f0, f1⟩, _⟩ := hoc7.two k hlk
            have hb3' := ((hb2'.then hb5 (by simp)).then hb6 (by simp)).then hb7 (by simp)
            go_wp2_with fail
            have hQ : ccn y = qR f cl mu g Sc S0 (xs t) k ∧ ccn z1 = qT1 f cl mu g Sc S0 (xs t) k ∧ ccn z2 = qT2 f cl mu g Sc S0 (xs t) k := by
              obtain ⟨e1, e2, e3⟩ := HY.out
              obtain ⟨g0, g1, g2, g3, g4⟩ := HSC.out
              obtain ⟨h0, h1⟩ := HT.out
              rw [qTv_at _ _ _ _ _ _ _ k _ (by omega)] at h0 h1
              rw [g0, h0, HV.out] at e1
              refine ⟨e1, ?_, ?_⟩
              · rw [e2, g1, g3, h1, HV.out, e1]; rfl
              · rw [e3, g2, g4, HV.out, e1]; rfl
            have q1 : N1 = clN f cl mu (qR f cl mu g Sc S0 (xs t) k) := by rw [← hn1, ← hQ.1]; exact (clN_cc f cl mu y).symm
            have q2 : N2 = clN f cl mu (qT1 f cl mu g Sc S0 (xs t) k) := by rw [← hn2, ← hQ.2.1]; exact (clN_cc f cl mu z1).symm
            have q3 : N3 = clN f cl mu (qT2 f cl mu g Sc S0 (xs t) k) := by rw [← hn3, ← hQ.2.2]; exact (clN_cc f cl mu z2).symm
            have q4 : M + (N1 + N2 + N3) = N + qN f cl mu g Sc S0 (xs t) (k + 1) := by simp only [qN]; rw [HM.out, q1, q2, q3]; omega
            exact ⟨⟨k + 1, M + (N1 + N2 + N3), clC f cl mu y, by omega, by go_num, by simp, Lib.hid q4, rfl, clC_wf wy, Lib.hid (by rw [clC_cc, hQ.1]; rfl), (hb3'.setCell _ _ (.inl (by simp))).setCell _ _ (.inl (by simp)), ((hoc7.set_ (k * 2) (a := clC f cl mu z1) (clC_wf wz1) (by rw [clC_cc, hQ.2.1])).set_ (k * 2 + 1) (a := clC f cl mu z2) (clC_wf wz2) (by rw [clC_cc, hQ.2.2])).congr fun j _ => (qTv_succ _ _ _ _ _ _ _ k j).symm⟩, by simp [intOf]; omega⟩

          case first =>
            refine wp_region_noPanic ?_
            refine wp_region_held_drew (S := fun w' => But [] wr w' ∧ w'.cell? ⟨B, 1, none⟩ = some (.slice (some ⟨fb, 0, none⟩) n fk) ∧ w'.cell? ⟨fb, k * 5, none⟩ = some (.complex .f64 s0.1 s0.2) ∧ w'.cell? ⟨fb, k * 5 + 1, none⟩ = some (.complex .f64 s1.1 s1.2) ∧ w'.cell? ⟨fb, k * 5 + 2, none⟩ = some (.complex .f64 s2.1 s2.2) ∧ w'.cell? ⟨fb, k * 5 + 3, none⟩ = some (.complex .f64 s3.1 s3.2) ∧ w'.cell? ⟨fb, k * 5 + 4, none⟩ = some (.complex .f64 s4.1 s4.2) ∧ w'.cell? ⟨sB, k * 2, none⟩ = some (.complex .f64 t0.1 t0.2) ∧ w'.cell? ⟨sB, k * 2 + 1, none⟩ = some (.complex .f64 t1.1 t1.2)) (by kernel_rfl) ?_ (fun hHeld => ?_)
            · (try dsimp only); exact ⟨(But.refl _ _).drew, cF1, a0, a1, a2, a3, a4, b0, b1⟩
            (refine wpAnyH_take (i := 0) (oi := _) (v := _) rfl (by decide +kernel) (by decide +kernel) (by decide +kernel) (fun _ _ _ h => h) (Or.inl ⟨by rfl, by (intro w hSw; (try dsimp only at hSw); go_simp; try with_reducible rfl)⟩) (by assumption) ?_; (try simp only [Act.put, List.setIfInBounds_toArray, List.set_cons_zero, List.set_cons_succ, List.getElem_toArray, List.getElem_cons_succ, List.getElem_cons_zero]))
            (refine wpAnyH_take (i := 1) (oi := _) (v := _) rfl (by decide +kernel) (by decide +kernel) (by decide +kernel) (fun _ _ _ h => h) (Or.inl ⟨by rfl, by (intro w hSw; (try dsimp only at hSw); go_simp; try with_reducible rfl)⟩) (by assumption) ?_; (try simp only [Act.put, List.setIfInBounds_toArray, List.set_cons_zero, List.set_cons_succ, List.getElem_toArray, List.getElem_cons_succ, List.getElem_cons_zero]))
            (refine wpAnyH_take (i := 2) (oi := _) (v := _) rfl (by decide +kernel) (by decide +kernel) (by decide +kernel) (fun _ _ _ h => h) (Or.inl ⟨by rfl, by (intro w hSw; (try dsimp only at hSw); go_simp; try with_reducible rfl)⟩) (by assumption) ?_; (try simp only [Act.put, List.setIfInBounds_toArray, List.set_cons_zero, List.set_cons_succ, List.getElem_toArray, List.getElem_cons_succ, List.getElem_cons_zero]))
            (refine wpAnyH_take (i := 3) (oi := _) (v := _) rfl (by decide +kernel) (by decide +kernel) (by decide +kernel) (fun _ _ _ h => h) (Or.inl ⟨by rfl, by (intro w hSw; (try dsimp only at hSw); go_simp; try with_reducible rfl)⟩) (by assumption) ?_; (try simp only [Act.put, List.setIfInBounds_toArray, List.set_cons_zero, List.set_cons_succ, List.getElem_toArray, List.getElem_cons_succ, List.getElem_cons_zero]))
            (refine wpAnyH_take (i := 4) (oi := _) (v := _) rfl (by decide +kernel) (by decide +kernel) (by decide +kernel) (fun _ _ _ h => h) (Or.inl ⟨by rfl, by (intro w hSw; (try dsimp only at hSw); go_simp; try with_reducible rfl)⟩) (by assumption) ?_; (try simp only [Act.put, List.setIfInBounds_toArray, List.set_cons_zero, List.set_cons_succ, List.getElem_toArray, List.getElem_cons_succ, List.getElem_cons_zero]))
            (refine wpAnyH_take (i := 5) (oi := _) (v := _) rfl (by decide +kernel) (by decide +kernel) (by decide +kernel) (fun _ _ _ h => h) (Or.inl ⟨by rfl, by (intro w hSw; (try dsimp only at hSw); go_simp; try with_reducible rfl)⟩) (by assumption) ?_; (try simp only [Act.put, List.setIfInBounds_toArray, List.set_cons_zero, List.set_cons_succ, List.getElem_toArray, List.getElem_cons_succ, List.getElem_cons_zero]))
            (refine wpAnyH_take (i := 6) (oi := _) (v := _) rfl (by decide +kernel) (by decide +kernel) (by decide +kernel) (fun _ _ _ h => h) (Or.inl ⟨by rfl, by (intro w hSw; (try dsimp only at hSw); go_simp; try with_reducible rfl)⟩) (by assumption) ?_; (try simp only [Act.put, List.setIfInBounds_toArray, List.set_cons_zero, List.set_cons_succ, List.getElem_toArray, List.getElem_cons_succ, List.getElem_cons_zero]))
            (refine wpAnyH_take (i := 7) (oi := _) (v := _) rfl (by decide +kernel) (by decide +kernel) (by decide +kernel) (fun _ _ _ h => h) (Or.inl ⟨by rfl, by (intro w hSw; (try dsimp only at hSw); go_simp; try with_reducible rfl)⟩) (by assumption) ?_; (try simp only [Act.put, List.setIfInBounds_toArray, List.set_cons_zero, List.set_cons_succ, List.getElem_toArray, List.getElem_cons_succ, List.getElem_cons_zero]))
            (refine wpAnyH_take (i := 8) (oi := _) (v := _) rfl (by decide +kernel) (by decide +kernel) (by decide +kernel) (fun _ _ _ h => h) (Or.inl ⟨by rfl, by (intro w hSw; (try dsimp only at hSw); go_simp; try with_reducible rfl)⟩) (by assumption) ?_; (try simp only [Act.put, List.setIfInBounds_toArray, List.set_cons_zero, List.set_cons_succ, List.getElem_toArray, List.getElem_cons_succ, List.getElem_cons_zero]))
            (refine wpAnyH_take (i := 9) (oi := _) (v := _) rfl (by decide +kernel) (by decide +kernel) (by decide +kernel) (fun _ _ _ h => h) (Or.inl ⟨by rfl, by (intro w hSw; (try dsimp only at hSw); go_simp; try with_reducible rfl)⟩) (by assumption) ?_; (try simp only [Act.put, List.setIfInBounds_toArray, List.set_cons_zero, List.set_cons_succ, List.getElem_toArray, List.getElem_cons_succ, List.getElem_cons_zero]))
            refine wpAnyH_ready (rs := [10, 14]) (by decide +kernel) (by simp) ?_
            refine AllReadyH.cons (o := _) rfl (fun K hK => ?_) ?_
            · go_simp; go_at_call 71; refine (step_c s0 s1 s2 s3 s4 t0 t1 vr _).mono ?_; rintro e wq ⟨y, z1, z2, rfl, hbd2, wy, wz1, wz2, e1, e2, e3⟩; have hbu := But.of_below (qs := []) hbd2; have hq := hHeld.1.trans hbu; (try (replace hTz := hbu.heap hTz (by simp))); clear hbd2 hbu; have F1 := Lib.hid e1; have F2 := Lib.hid e2; have F3 := Lib.hid e3; clear e1 e2 e3; go_wp2_with fail
              refine hK.out _ _ (by (try dsimp only); exact ⟨hq, hq.cell cF1 (by simp), hq.cell a0 (by simp), hq.cell a1 (by simp), hq.cell a2 (by simp), hq.cell a3 (by simp), hq.cell a4 (by simp), hq.cell b0 (by simp), hq.cell b1 (by simp)⟩) (fun hNew => ?_); clear hK K; clear hHeld; have hHeld := hNew; clear hNew
              (try simp only [Act.put, List.setIfInBounds_toArray, List.set_cons_zero, List.set_cons_succ, List.getElem_toArray, List.getElem_cons_succ, List.getElem_cons_zero])
              (refine wpAnyH_take (i := 11) (oi := _) (v := _) rfl (by decide +kernel) (by decide +kernel) (by decide +kernel) (fun _ _ _ h => h) (Or.inl ⟨by rfl, by (intro w hSw; (try dsimp only at hSw); go_simp; try with_reducible rfl)⟩) (by assumption) ?_; (try simp only [Act.put, List.setIfInBounds_toArray, List.set_cons_zero, List.set_cons_succ, List.getElem_toArray, List.getElem_cons_succ, List.getElem_cons_zero]))
              (refine wpAnyH_take (i := 12) (oi := _) (v := _) rfl (by decide +kernel) (by decide +kernel) (by decide +kernel) (fun _ _ _ h => h) (Or.inl ⟨by rfl, by (intro w hSw; (try dsimp only at hSw); go_simp; try with_reducible rfl)⟩) (by assumption) ?_; (try simp only [Act.put, List.setIfInBounds_toArray, List.set_cons_zero, List.set_cons_succ, List.getElem_toArray, List.getElem_cons_succ, List.getElem_cons_zero]))
              (refine wpAnyH_take (i := 13) (oi := _) (v := _) rfl (by decide +kernel) (by decide +kernel) (by decide +kernel) (fun _ _ _ h => h) (Or.inl ⟨by rfl, by (intro w hSw; (try dsimp only at hSw); go_simp; try with_reducible rfl)⟩) (by assumption) ?_; (try simp only [Act.put, List.setIfInBounds_toArray, List.set_cons_zero, List.set_cons_succ, List.getElem_toArray, List.getElem_cons_succ, List.getElem_cons_zero]))
              refine wpAnyH_ready (rs := [14]) (by decide +kernel) (by simp) ?_
              refine AllReadyH.cons (o := _) rfl (fun K hK => ?_) AllReadyH.nil
              go_simp; (first | (obtain ⟨T, wz, hTe, hwz, hq, hTz, HT0⟩ : ∃ T wz, wq.heap.size = T ∧ wq.alloc (.cells #[.complex .f64 0 0, .complex .f64 0 0] 71) = wz ∧ But [] wr wz ∧ wz.heap[T]? = some (.cells #[.complex .f64 0 0, .complex .f64 0 0] 71 (0, 0)) ∧ wr.heap.size ≤ T := ⟨_, _, rfl, rfl, hHeld.1.alloc _, heap_alloc_new _ _, hHeld.1.size⟩) | (obtain ⟨T, wz, hTe, hwz, hq, hTz, HT0⟩ : ∃ T wz, wr.heap.size = T ∧ (wr.alloc (.cells #[.complex .f64 0 0, .complex .f64 0 0] 71)).drew = wz ∧ But [] wr wz ∧ wz.heap[T]? = some (.cells #[.complex .f64 0 0, .complex .f64 0 0] 71 (0, 0)) ∧ wr.heap.size ≤ T := ⟨_, _, rfl, rfl, ((But.refl [] wr).alloc _).drew, heap_alloc_new wr _, Nat.le_refl _⟩)); rw [hwz, hTe]; clear hwz; have HTE := Lib.hid hTe; clear hTe
              refine hK.out _ _ (by (try dsimp only); exact ⟨hq, hq.cell cF1 (by simp), hq.cell a0 (by simp), hq.cell a1 (by simp), hq.cell a2 (by simp), hq.cell a3 (by simp), hq.cell a4 (by simp), hq.cell b0 (by simp), hq.cell b1 (by simp)⟩) (fun hNew => ?_); clear hK K; clear hHeld; have hHeld := hNew; clear hNew
              (try simp only [Act.put, List.setIfInBounds_toArray, List.set_cons_zero, List.set_cons_succ, List.getElem_toArray, List.getElem_cons_succ, List.getElem_cons_zero])
              (refine wpAnyH_take (i := 15) (oi := _) (v := _) rfl (by decide +kernel) (by decide +kernel) (by decide +kernel) (fun _ _ _ h => h) (Or.inl ⟨by rfl, by (intro w hSw; (try dsimp only at hSw); go_simp; try with_reducible rfl)⟩) (by assumption) ?_; (try simp only [Act.put, List.setIfInBounds_toArray, List.set_cons_zero, List.set_cons_succ, List.getElem_toArray, List.getElem_cons_succ, List.getElem_cons_zero]))
              refine wpAnyH_ready (rs := [16]) (by decide +kernel) (by simp) ?_
              refine AllReadyH.cons (o := _) rfl (fun K hK => ?_) AllReadyH.nil
              have hc0 := (cell_of_row _ T 0 _ _ _ hTz).trans (c := some (.complex .f64 0 0)) rfl; have hc1 := (cell_of_row _ T 1 _ _ _ hTz).trans (c := some (.complex .f64 0 0)) rfl; have hz0 := blk_free (i := 0) hTz; have hz1 := blk_free (i := 1) hTz; have HTZ := Lib.hid hTz; clear hTz; go_simp; have hq3 := (hHeld.1.setCell ⟨T, 0, none⟩ (.complex .f64 z1.1 z1.2) (.inr HT0)).setCell ⟨T, 1, none⟩ (.complex .f64 z2.1 z2.2) (.inr HT0)
              refine hK.out _ _ (by (try dsimp only); exact ⟨hq3, hq3.cell cF1 (by simp), hq3.cell a0 (by simp), hq3.cell a1 (by simp), hq3.cell a2 (by simp), hq3.cell a3 (by simp), hq3.cell a4 (by simp), hq3.cell b0 (by simp), hq3.cell b1 (by simp)⟩) (fun hNew => ?_); clear hK K; clear hHeld; have hHeld := hNew; clear hNew
              (try simp only [Act.put, List.setIfInBounds_toArray, List.set_cons_zero, List.set_cons_succ, List.getElem_toArray, List.getElem_cons_succ, List.getElem_cons_zero])
              refine wpAnyH_done (by decide +kernel) ?_ _
              refine NoPanic.normal ?_; (try simp only [Exit.then])
              go_wp2_with fail
              go_meet
              case rel => exact ⟨y, z1, z2, T, rfl, rfl, hHeld.1, (cell_of_row _ T 0 _ _ _ (blk_set _ _ _ _ _ _ (blk_set _ _ _ _ _ _ HTZ.out))).trans rfl, (cell_of_row _ T 1 _ _ _ (blk_set _ _ _ _ _ _ (blk_set _ _ _ _ _ _ HTZ.out))).trans rfl, wy, wz1, wz2, by omega, ⟨F1.out, F2.out, F3.out⟩⟩
            refine AllReadyH.cons (o := _) rfl (fun K hK => ?_) AllReadyH.nil
            go_simp; (first | (obtain ⟨T, wz, hTe, hwz, hq, hTz, HT0⟩ : ∃ T wz, wq.heap.size = T ∧ wq.alloc (.cells #[.complex .f64 0 0, .complex .f64 0 0] 71) = wz ∧ But [] wr wz ∧ wz.heap[T]? = some (.cells #[.complex .f64 0 0, .complex .f64 0 0] 71 (0, 0)) ∧ wr.heap.size ≤ T := ⟨_, _, rfl, rfl, hHeld.1.alloc _, heap_alloc_new _ _, hHeld.1.size⟩) | (obtain ⟨T, wz, hTe, hwz, hq, hTz, HT0⟩ : ∃ T wz, wr.heap.size = T ∧ (wr.alloc (.cells #[.complex .f64 0 0, .complex .f64 0 0] 71)).drew = wz ∧ But [] wr wz ∧ wz.heap[T]? = some (.cells #[.complex .f64 0 0, .complex .f64 0 0] 71 (0, 0)) ∧ wr.heap.size ≤ T := ⟨_, _, rfl, rfl, ((But.refl [] wr).alloc _).drew, heap_alloc_new wr _, Nat.le_refl _⟩)); rw [hwz, hTe]; clear hwz; have HTE := Lib.hid hTe; clear hTe
            refine hK.out _ _ (by (try dsimp only); exact ⟨hq, hq.cell cF1 (by simp), hq.cell a0 (by simp), hq.cell a1 (by simp), hq.cell a2 (by simp), hq.cell a3 (by simp), hq.cell a4 (by simp), hq.cell b0 (by simp), hq.cell b1 (by simp)⟩) (fun hNew => ?_); clear hK K; clear hHeld; have hHeld := hNew; clear hNew
            (try simp only [Act.put, List.setIfInBounds_toArray, List.set_cons_zero, List.set_cons_succ, List.getElem_toArray, List.getElem_cons_succ, List.getElem_cons_zero])
            refine wpAnyH_ready (rs := [10]) (by decide +kernel) (by simp) ?_
            refine AllReadyH.cons (o := _) rfl (fun K hK => ?_) AllReadyH.nil
            go_simp; go_at_call 71; refine (step_c s0 s1 s2 s3 s4 t0 t1 vr _).mono ?_; rintro e wq ⟨y, z1, z2, rfl, hbd2, wy, wz1, wz2, e1, e2, e3⟩; have hbu := But.of_below (qs := []) hbd2; have hq := hHeld.1.trans hbu; (try (replace hTz := hbu.heap hTz (by simp))); clear hbd2 hbu; have F1 := Lib.hid e1; have F2 := Lib.hid e2; have F3 := Lib.hid e3; clear e1 e2 e3; go_wp2_with fail
            refine hK.out _ _ (by (try dsimp only); exact ⟨hq, hq.cell cF1 (by simp), hq.cell a0 (by simp), hq.cell a1 (by simp), hq.cell a2 (by simp), hq.cell a3 (by simp), hq.cell a4 (by simp), hq.cell b0 (by simp), hq.cell b1 (by simp)⟩) (fun hNew => ?_); clear hK K; clear hHeld; have hHeld := hNew; clear hNew
            (try simp only [Act.put, List.setIfInBounds_toArray, List.set_cons_zero, List.set_cons_succ, List.getElem_toArray, List.getElem_cons_succ, List.getElem_cons_zero])
            (refine wpAnyH_take (i := 11) (oi := _) (v := _) rfl (by decide +kernel) (by decide +kernel) (by decide +kernel) (fun _ _ _ h => h) (Or.inl ⟨by rfl, by (intro w hSw; (try dsimp only at hSw); go_simp; try with_reducible rfl)⟩) (by assumption) ?_; (try simp only [Act.put, List.setIfInBounds_toArray, List.set_cons_zero, List.set_cons_succ, List.getElem_toArray, List.getElem_cons_succ, List.getElem_cons_zero]))
            (refine wpAnyH_take (i := 12) (oi := _) (v := _) rfl (by decide +kernel) (by decide +kernel) (by decide +kernel) (fun _ _ _ h => h) (Or.inl ⟨by rfl, by (intro w hSw; (try dsimp only at hSw); go_simp; try with_reducible rfl)⟩) (by assumption) ?_; (try simp only [Act.put, List.setIfInBounds_toArray, List.set_cons_zero, List.set_cons_succ, List.getElem_toArray, List.getElem_cons_succ, List.getElem_cons_zero]))
            (refine wpAnyH_take (i := 13) (oi := _) (v := _) rfl (by decide +kernel) (by decide +kernel) (by decide +kernel) (fun _ _ _ h => h) (Or.inl ⟨by rfl, by (intro w hSw; (try dsimp only at hSw); go_simp; try with_reducible rfl)⟩) (by assumption) ?_; (try simp only [Act.put, List.setIfInBounds_toArray, List.set_cons_zero, List.set_cons_succ, List.getElem_toArray, List.getElem_cons_succ, List.getElem_cons_zero]))
            (refine wpAnyH_take (i := 15) (oi := _) (v := _) rfl (by decide +kernel) (by decide +kernel) (by decide +kernel) (fun _ _ _ h => h) (Or.inl ⟨by rfl, by (intro w hSw; (try dsimp only at hSw); go_simp; try with_reducible rfl)⟩) (by assumption) ?_; (try simp only [Act.put, List.setIfInBounds_toArray, List.set_cons_zero, List.set_cons_succ, List.getElem_toArray, List.getElem_cons_succ, List.getElem_cons_zero]))
            refine wpAnyH_ready (rs := [16]) (by decide +kernel) (by simp) ?_
            refine AllReadyH.cons (o := _) rfl (fun K hK => ?_) AllReadyH.nil
            have hc0 := (cell_of_row _ T 0 _ _ _ hTz).trans (c := some (.complex .f64 0 0)) rfl; have hc1 := (cell_of_row _ T 1 _ _ _ hTz).trans (c := some (.complex .f64 0 0)) rfl; have hz0 := blk_free (i := 0) hTz; have hz1 := blk_free (i := 1) hTz; have HTZ := Lib.hid hTz; clear hTz; go_simp; have hq3 := (hHeld.1.setCell ⟨T, 0, none⟩ (.complex .f64 z1.1 z1.2) (.inr HT0)).setCell ⟨T, 1, none⟩ (.complex .f64 z2.1 z2.2) (.inr HT0)
            refine hK.out _ _ (by (try dsimp only); exact ⟨hq3, hq3.cell cF1 (by simp), hq3.cell a0 (by simp), hq3.cell a1 (by simp), hq3.cell a2 (by simp), hq3.cell a3 (by simp), hq3.cell a4 (by simp), hq3.cell b0 (by simp), hq3.cell b1 (by simp)⟩) (fun hNew => ?_); clear hK K; clear hHeld; have hHeld := hNew; clear hNew
            (try simp only [Act.put, List.setIfInBounds_toArray, List.set_cons_zero, List.set_cons_succ, List.getElem_toArray, List.getElem_cons_succ, List.getElem_cons_zero])
            refine wpAnyH_done (by decide +kernel) ?_ _
            refine NoPanic.normal ?_; (try simp only [Exit.then])
            go_wp2_with fail
            go_meet
            case rel => exact ⟨y, z1, z2, T, rfl, rfl, hHeld.1, (cell_of_row _ T 0 _ _ _ (blk_set _ _ _ _ _ _ (blk_set _ _ _ _ _ _ HTZ.out))).trans rfl, (cell_of_row _ T 1 _ _ _ (blk_set _ _ _ _ _ _ (blk_set _ _ _ _ _ _ HTZ.out))).trans rfl, wy, wz1, wz2, by omega, ⟨F1.out, F2.out, F3.out⟩⟩

        · obtain rfl : n = k := by omega
          obtain ⟨zv, hzv, wzv, ezv⟩ := (hv4.keep hbW (by have := HVL.out (by omega); simp; omega)) t hlt
          unfold V at hzv
          rw [Nat.zero_add] at hzv
          have HE : Hid (ccn vr = ccn zv) := Lib.hid (by rw [HV.out, ezv, ← HS.out]; rfl)
          clear ezv
          go_wp2_with fail
          refine (alike_true vr zv hvw wzv HE.out _).mono ?_
          rintro e w5 ⟨rfl, rfl⟩
          go_wp2_with fail
          exact ⟨⟨t + 1, M, by omega, by go_num, rfl, Lib.hid (by rw [HM.out, HN.out, ← HS.out]; rfl), hbW, by have h := hoc1; rw [← HS.out] at h; exact h⟩, by simp [intOf]; omega⟩

    · obtain rfl : m = t := by omega
      have hgw' := hgrd4.keep hbt (by simp; omega) (by simp; omega) (by simp; omega) (by simp; omega) (by simp; omega)
      have hNB := qNs_le f cl mu n n16 g Sc (fun _ => Z0) xs m
      rw [← HN.out] at hNB
      have hcnt : cnt 0 (qNs f cl mu n g Sc (fun _ => Z0) xs m) = N := by rw [← HN.out]; unfold cnt; omega
      rw [hcnt] at hgw'
      go_wp2_with fail
      refine (gchanged_any d c p q' p2 n f cl mu N g Sc _ _ hgw').mono ?_
      rintro e w5 ⟨rfl, rfl⟩
      have hwr : IntKind.u64.wrap (N : Int) = (N : Int) := IntWalk.u64_in _ (by omega)
      go_wp2_with fail
      refine (gstates_any d c p q' p2 n f cl mu N g Sc _ _ hgw').mono ?_
      rintro e w6 ⟨sb, sk, rfl, hsk, hsb, hos, hb6⟩
      go_wp2_with fail
      refine (tstates_any (some ⟨sb, 0, none⟩) (some ⟨sB, 0, none⟩) sb 0 sB 0 n sk n (by omega) (by rcases Nat.eq_zero_or_pos n with h | h; exact .inl h; exact .inr ⟨h, rfl, rfl⟩) _ _ hos.rc (hoc.rc.keep hb6 (by simp))).mono ?_
      rintro e w7 ⟨rfl, hb7⟩
      go_wp2_with fail
      go_ret
      exact ⟨rfl, ((hb14.then hbt (fun i hi hm => by have := HBE.out; simp at hm; omega)).trans hb6).trans hb7⟩
end Go.Proofs.Ytnmpofjegepmaaa
