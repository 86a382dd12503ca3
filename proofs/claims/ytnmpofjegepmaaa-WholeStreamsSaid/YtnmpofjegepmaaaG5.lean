/- (*Guarded).Run. -/
import Derived.Test.YtnmpofjegepmaaaG4
import Derived.Deep.CutRange
namespace Go.Proofs.Ytnmpofjegepmaaa
open Go.RowKit Go.Proofs.Ytnmpofjegepmaaa.Fl Go.Proofs.Ytnmpofjegepmaaa.Pt

set_option linter.unusedSimpArgs false in
set_option maxHeartbeats 1000000 in
set_option maxRecDepth 100000 in
theorem grun_any (d c p q p2 n lb lo m mk : Nat) (f cl mu : Bool) (ch : Nat) (hch : ch < 18446744073709551616) (A : Option Addr) (hA : 0 < m → A = some ⟨lb, lo, none⟩) (hm : m ≤ 8796093022208) (g : C) (xs Sc St : Nat → C) (w : World) (hxs : RC w lb lo m xs) (hld : lb ≠ d) (h : Grd w d c p q p2 n f cl mu ch g Sc St) :
    Calls Try.prog 33 #[.pointer (some ⟨d, 0, none⟩), .slice A m mk] w fun e w' => ∃ v q', e = .returned v ∧ OR w' w.heap.size 25 1 v m (qYs f cl mu n g Sc St xs) ∧ w.heap.size ≤ q' ∧ Grd w' d c p q' p2 n f cl mu (cnt ch (qNs f cl mu n g Sc St xs m)) g Sc (qSs f cl mu n g Sc St xs m) ∧ But [d, c] w w' := by
  have HG := Lib.hid h
  obtain ⟨hcas, ⟨gr, A2, k2, hb, hgw, hgc, hA2⟩, hsec, ⟨ndc, ndp, ndq, nd2, nc2⟩, p2l⟩ := h
  have hdl : d < w.heap.size := (Array.getElem?_eq_some_iff.1 hb).1
  have hcl := hcas.cl
  have hpl := hcas.pl
  have hql := hcas.ql
  have n16 := hcas.n16
  have c0 : w.cell? ⟨d, 0, none⟩ = some (.pointer (some ⟨c, 0, none⟩)) := by rw [cell_of_row w d 0 _ _ _ hb]; rfl
  have HB := Lib.hid hb
  have HGC := Lib.hid hgc
  have HA2 := Lib.hid hA2
  have HA := Lib.hid hA
  clear hb hgc hA2 hA
  go_enter Try.func33, Try.ntmps33
  go_wp2_with fail
  refine (cstates_any c p q n g Sc St _ hcas).mono ?_
  rintro e w0 ⟨v, rfl, ⟨sB, sk, rfl, hsk, hsB, hocS⟩, hb0⟩
  have s0' := hb0.size
  have hsl := hocS.lt
  have hx0 := hxs.keep hb0 (by simp)
  have hsec0 := hsec.keep hb0 (by simp)
  have hbl0 := hb0.heap HB.out (by simp)
  have HB0 := Lib.hid hbl0
  clear hbl0 c0
  go_wp2_with fail
  go_loopw [6, 23] (fun v i wr => ∃ t : Nat, t ≤ m ∧ i = .int .i64 t ∧ But [d, sB] w0 wr ∧ OR wr w0.heap.size 25 1 v t (qYs f cl mu n g Sc St xs) ∧ OC wr sB 71 (n * 2) (qSs f cl mu n g Sc St xs t) ∧ wr.heap[d]? = some (.cells #[.pointer (some ⟨c, 0, none⟩), .complex .f64 gr.1 gr.2, .slice A2 n k2, .bool f, .bool cl, .bool mu, .int .u64 ((cnt ch (qNs f cl mu n g Sc St xs t) : Nat) : Int)] 117 (0, 0))) (fun _ i _ => m - (intOf i).toNat)
  case atStart => exact ⟨0, Nat.zero_le _, rfl, But.refl _ _, OR.nil _ _ _ _ _, hocS, by rw [HB0.out]; simp only [qNs, cnt_zero hch]⟩
  case round =>
    obtain ⟨t, ht, rfl, hbt, hor, hoc, hblk⟩ := hrel
    by_cases hlt : t < m
    · obtain rfl := HA.out (by omega)
      have hlw : lb < w.heap.size := by
        obtain ⟨_, h1, _⟩ := hxs 0 (by omega)
        exact World.block_lt_of_cell? _ _ h1
      obtain ⟨xr, hxr, wx, ex⟩ := hx0.keep hbt (by simp; omega) t hlt
      unfold V at hxr
      have EX1 := Lib.hid ex
      have c1 : wr.cell? ⟨d, 1, none⟩ = some (.complex .f64 gr.1 gr.2) := by rw [cell_of_row wr d 1 _ _ _ hblk]; rfl
      have c2 : wr.cell? ⟨d, 2, none⟩ = some (.slice A2 n k2) := by rw [cell_of_row wr d 2 _ _ _ hblk]; rfl
      have HBT := Lib.hid hblk
      clear ex hblk
      go_wp2_with (go_at_call 50; refine (mul_any _ _ _ _ _).mono ?_; rintro e w' ⟨re, im, nd, rfl, rfl, l1, l2, e1, e2⟩; have E1 := Lib.hid e1; have E2 := Lib.hid e2; clear e1 e2)
      have hbtD := hbt.drewN nd
      have horD := hor.drewN nd
      have hocD : OC (wr.drewN nd) sB 71 (n * 2) (qSs f cl mu n g Sc St xs t) := hoc
      have hblD : (wr.drewN nd).heap[d]? = some (.cells #[.pointer (some ⟨c, 0, none⟩), .complex .f64 gr.1 gr.2, .slice A2 n k2, .bool f, .bool cl, .bool mu, .int .u64 ((cnt ch (qNs f cl mu n g Sc St xs t) : Nat) : Int)] 117 (0, 0)) := HBT.out
      generalize wr.drewN nd = W1 at *
      have HBD := Lib.hid hblD
      have hsec1 := hsec0.keep hbtD (by simp; omega)
      clear hbt hor hoc HBT c1 c2 hxr hblD
      generalize hS : qSs f cl mu n g Sc St xs t = S0 at *
      generalize hc0 : cnt ch (qNs f cl mu n g Sc St xs t) = ch1 at *
      have HS := Lib.hid hS
      have HC0 := Lib.hid hc0
      clear hS hc0
      go_loopw [9, 38] (fun v i wr => ∃ (k : Nat) (vr : C), k ≤ n ∧ i = .int .i64 k ∧ v = .complex .f64 vr.1 vr.2 ∧ wf vr ∧ Hid (ccn vr = qYv f cl mu g Sc S0 (xs t) k) ∧ But [d, sB] W1 wr ∧ OC wr sB 71 (n * 2) (qTv f cl mu g Sc S0 (xs t) k) ∧ wr.heap[d]? = some (.cells #[.pointer (some ⟨c, 0, none⟩), .complex .f64 gr.1 gr.2, .slice A2 n k2, .bool f, .bool cl, .bool mu, .int .u64 ((cnt ch1 (qN f cl mu g Sc S0 (xs t) k) : Nat) : Int)] 117 (0, 0))) (fun _ i _ => n - (intOf i).toNat)
      case atStart =>
        refine ⟨0, (re, im), Nat.zero_le _, rfl, rfl, ⟨l1, l2⟩, ?_, But.refl _ _, hocD.congr fun j _ => (qTv_at _ _ _ _ _ _ _ 0 j (by omega)).symm, by rw [HBD.out]; simp only [qN]; rw [← HC0.out, cnt_add]; rfl⟩
        show ccn (re, im) = cmul g (xs t)
        rw [← HGC.out, ← EX1.out, cmul_cc]; unfold ccn; rw [E1.out, E2.out]; rfl
      case round =>
        obtain ⟨k, vr, hk, rfl, rfl, hvw, HV, hb1, hoc1, hbl1⟩ := hrel
        by_cases hlk : k < n
        · obtain rfl := HA2.out (by omega)
          obtain ⟨s0, s1, s2, s3, s4, ⟨a0, a1, a2, a3, a4⟩, HSC⟩ := (hsec1.keep hb1 (by simp; omega)).five k hlk
          obtain ⟨t0, t1, ⟨b0, b1⟩, ⟨f0, f1⟩, HT⟩ := hoc1.two k hlk
          have hex : ∃ w1, wr.alloc (.cells #[.complex .f64 s0.1 s0.2, .complex .f64 s1.1 s1.2, .complex .f64 s2.1 s2.2, .complex .f64 s3.1 s3.2, .complex .f64 s4.1 s4.2] 33) = w1 ∧ But [] wr w1 ∧
              w1.cell? ⟨wr.heap.size, 0, none⟩ = some (.complex .f64 s0.1 s0.2) ∧ w1.cell? ⟨wr.heap.size, 1, none⟩ = some (.complex .f64 s1.1 s1.2) ∧ w1.cell? ⟨wr.heap.size, 2, none⟩ = some (.complex .f64 s2.1 s2.2) ∧ w1.cell? ⟨wr.heap.size, 3, none⟩ = some (.complex .f64 s3.1 s3.2) ∧ w1.cell? ⟨wr.heap.size, 4, none⟩ = some (.complex .f64 s4.1 s4.2) :=
            ⟨_, rfl, (But.refl _ _).alloc _, by simp [go_sem, World.cell?_alloc_past], by simp [go_sem, World.cell?_alloc_past], by simp [go_sem, World.cell?_alloc_past], by simp [go_sem, World.cell?_alloc_past], by simp [go_sem, World.cell?_alloc_past]⟩
          obtain ⟨w1, hw1, hbA, d0, d1, d2, d3, d4⟩ := hex
          have HW1 := Lib.hid hw1
          clear hw1
          have t1' : (k : Int) < n := by omega
          go_upto_region 12 with fail
          rw [HW1.out]
          replace b0 := hbA.cell b0 (by simp)
          replace b1 := hbA.cell b1 (by simp)
          clear a0 a1 a2 a3 a4 HW1 f0 f1
          generalize hBB : wr.heap.size = B at *
          have HBB := Lib.hid hBB
          have sA := hbA.size
          have sb1 := hb1.size
          have sbt := hbtD.size
          rw [HBB.out] at sA sb1
          clear hBB
          go_cut [12, 13] from 39 to 68 (fun s12 s13 wx => ∃ (y z1 z2 : C) (T : Nat), s12 = .complex .f64 y.1 y.2 ∧ s13 = .pointer (some ⟨T, 0, none⟩) ∧ But [] w1 wx ∧ wx.cell? ⟨T, 0, none⟩ = some (.complex .f64 z1.1 z1.2) ∧ wx.cell? ⟨T, 1, none⟩ = some (.complex .f64 z2.1 z2.2) ∧ wf y ∧ wf z1 ∧ wf z2 ∧ T ≠ d ∧ T ≠ sB ∧ Hid (ccn y = sy (ccn s0) (ccn t0) (ccn vr) ∧ ccn z1 = st1 (ccn s1) (ccn s3) (ccn t1) (ccn vr) (ccn y) ∧ ccn z2 = st2 (ccn s2) (ccn s4) (ccn vr) (ccn y)))
          case rest =>
            obtain ⟨y, z1, z2, T, rfl, rfl, hbx, x0, x1, wy, wz1, wz2, hTd, hTs, HY⟩ := hcut
            have hbq := hbA.trans hbx
            have hblx := hbq.heap hbl1 (by simp)
            have hocx := hoc1.keep hbq (by simp)
            have hb2 := hb1.then hbq (by simp)
            clear hbA hbx hbq
            go_wp2_with fail
            refine (gclean_any d _ _ _ f cl mu _ y wy _ hblx).mono ?_
            rintro e w2 ⟨rfl, hbg, hbl2⟩
            replace x0 := hbg.cell x0 (by simpa using hTd)
            replace x1 := hbg.cell x1 (by simpa using hTd)
            have hoc2 := hocx.keep hbg (by simp; omega)
            have hb3 := hb2.then hbg (by simp +contextual)
            clear hbg hblx hocx hb2 hbl1 hoc1 hb1
            go_wp2_with fail
            go_upto_region 14 with fail
            refine wp_region_noPanic ?_
            refine wp_region_held_drew (S := fun w' => w'.cell? ⟨T, 0, none⟩ = some (.complex .f64 z1.1 z1.2) ∧ w'.cell? ⟨T, 1, none⟩ = some (.complex .f64 z2.1 z2.2)) (by kernel_rfl) ?_ (fun hHeld => ?_)
            · (try dsimp only); exact ⟨x0, x1⟩
            (refine wpAnyH_take (i := 0) (oi := _) (v := _) rfl (by decide +kernel) (by decide +kernel) (by decide +kernel) (fun _ _ _ h => h) (Or.inl ⟨by rfl, by (intro w hSw; (try dsimp only at hSw); go_simp; try with_reducible rfl)⟩) (by assumption) ?_; (try simp only [Act.put, List.setIfInBounds_toArray, List.set_cons_zero, List.set_cons_succ, List.getElem_toArray, List.getElem_cons_succ, List.getElem_cons_zero]))
            (refine wpAnyH_take (i := 1) (oi := _) (v := _) rfl (by decide +kernel) (by decide +kernel) (by decide +kernel) (fun _ _ _ h => h) (Or.inl ⟨by rfl, by (intro w hSw; (try dsimp only at hSw); go_simp; try with_reducible rfl)⟩) (by assumption) ?_; (try simp only [Act.put, List.setIfInBounds_toArray, List.set_cons_zero, List.set_cons_succ, List.getElem_toArray, List.getElem_cons_succ, List.getElem_cons_zero]))
            (refine wpAnyH_take (i := 2) (oi := _) (v := _) rfl (by decide +kernel) (by decide +kernel) (by decide +kernel) (fun _ _ _ h => h) (Or.inl ⟨by rfl, by (intro w hSw; (try dsimp only at hSw); go_simp; try with_reducible rfl)⟩) (by assumption) ?_; (try simp only [Act.put, List.setIfInBounds_toArray, List.set_cons_zero, List.set_cons_succ, List.getElem_toArray, List.getElem_cons_succ, List.getElem_cons_zero]))
            (refine wpAnyH_take (i := 3) (oi := _) (v := _) rfl (by decide +kernel) (by decide +kernel) (by decide +kernel) (fun _ _ _ h => h) (Or.inl ⟨by rfl, by (intro w hSw; (try dsimp only at hSw); go_simp; try with_reducible rfl)⟩) (by assumption) ?_; (try simp only [Act.put, List.setIfInBounds_toArray, List.set_cons_zero, List.set_cons_succ, List.getElem_toArray, List.getElem_cons_succ, List.getElem_cons_zero]))
            (refine wpAnyH_take (i := 4) (oi := _) (v := _) rfl (by decide +kernel) (by decide +kernel) (by decide +kernel) (fun _ _ _ h => h) (Or.inl ⟨by rfl, by (intro w hSw; (try dsimp only at hSw); go_simp; try with_reducible rfl)⟩) (by assumption) ?_; (try simp only [Act.put, List.setIfInBounds_toArray, List.set_cons_zero, List.set_cons_succ, List.getElem_toArray, List.getElem_cons_succ, List.getElem_cons_zero]))
            (refine wpAnyH_take (i := 6) (oi := _) (v := _) rfl (by decide +kernel) (by decide +kernel) (by decide +kernel) (fun _ _ _ h => h) (Or.inl ⟨by rfl, by (intro w hSw; (try dsimp only at hSw); go_simp; try with_reducible rfl)⟩) (by assumption) ?_; (try simp only [Act.put, List.setIfInBounds_toArray, List.set_cons_zero, List.set_cons_succ, List.getElem_toArray, List.getElem_cons_succ, List.getElem_cons_zero]))
            (refine wpAnyH_take (i := 7) (oi := _) (v := _) rfl (by decide +kernel) (by decide +kernel) (by decide +kernel) (fun _ _ _ h => h) (Or.inl ⟨by rfl, by (intro w hSw; (try dsimp only at hSw); go_simp; try with_reducible rfl)⟩) (by assumption) ?_; (try simp only [Act.put, List.setIfInBounds_toArray, List.set_cons_zero, List.set_cons_succ, List.getElem_toArray, List.getElem_cons_succ, List.getElem_cons_zero]))
            (refine wpAnyH_take (i := 8) (oi := _) (v := _) rfl (by decide +kernel) (by decide +kernel) (by decide +kernel) (fun _ _ _ h => h) (Or.inl ⟨by rfl, by (intro w hSw; (try dsimp only at hSw); go_simp; try with_reducible rfl)⟩) (by assumption) ?_; (try simp only [Act.put, List.setIfInBounds_toArray, List.set_cons_zero, List.set_cons_succ, List.getElem_toArray, List.getElem_cons_succ, List.getElem_cons_zero]))
            refine wpAnyH_ready (rs := [5]) (by decide +kernel) (by simp) ?_
            refine AllReadyH.cons (o := _) rfl (fun K hK => ?_) AllReadyH.nil
            go_simp; go_at_call 79; refine (gclean_any d _ _ _ f cl mu _ z1 wz1 w2.drew hbl2).mono ?_; rintro e w3 ⟨rfl, H1, hbl3⟩; go_wp2_with fail
            refine hK.out _ _ (by (try dsimp only); exact ⟨H1.cell hHeld.1 (by simpa using hTd), H1.cell hHeld.2 (by simpa using hTd)⟩) (fun hNew => ?_); clear hK K; clear hHeld; have hHeld := hNew; clear hNew
            (try simp only [Act.put, List.setIfInBounds_toArray, List.set_cons_zero, List.set_cons_succ, List.getElem_toArray, List.getElem_cons_succ, List.getElem_cons_zero])
            refine wpAnyH_ready (rs := [9]) (by decide +kernel) (by simp) ?_
            refine AllReadyH.cons (o := _) rfl (fun K hK => ?_) AllReadyH.nil
            go_simp; have H5 := Lib.hid H1; clear H1; go_at_call 79; refine (gclean_any d _ _ _ f cl mu _ z2 wz2 _ hbl3).mono ?_; rintro e w4 ⟨rfl, H1, hbl4⟩; go_wp2_with fail
            refine hK.out _ _ (by (try dsimp only); exact ⟨H1.cell hHeld.1 (by simpa using hTd), H1.cell hHeld.2 (by simpa using hTd)⟩) (fun hNew => ?_); clear hK K; clear hHeld; have hHeld := hNew; clear hNew
            (try simp only [Act.put, List.setIfInBounds_toArray, List.set_cons_zero, List.set_cons_succ, List.getElem_toArray, List.getElem_cons_succ, List.getElem_cons_zero])
            (refine wpAnyH_take (i := 10) (oi := _) (v := _) rfl (by decide +kernel) (by decide +kernel) (by decide +kernel) (fun _ _ _ h => h) (Or.inl ⟨by rfl, by (intro w hSw; (try dsimp only at hSw); go_simp; try with_reducible rfl)⟩) (by assumption) ?_; (try simp only [Act.put, List.setIfInBounds_toArray, List.set_cons_zero, List.set_cons_succ, List.getElem_toArray, List.getElem_cons_succ, List.getElem_cons_zero]))
            (refine wpAnyH_take (i := 11) (oi := _) (v := _) rfl (by decide +kernel) (by decide +kernel) (by decide +kernel) (fun _ _ _ h => h) (Or.inl ⟨by rfl, by (intro w hSw; (try dsimp only at hSw); go_simp; try with_reducible rfl)⟩) (by assumption) ?_; (try simp only [Act.put, List.setIfInBounds_toArray, List.set_cons_zero, List.set_cons_succ, List.getElem_toArray, List.getElem_cons_succ, List.getElem_cons_zero]))
            refine wpAnyH_ready (rs := [12]) (by decide +kernel) (by simp) ?_
            refine AllReadyH.cons (o := _) rfl (fun K hK => ?_) AllReadyH.nil
            have hb4 := (hb3.then H5.out.undrew (by simp +contextual)).then H1 (by simp +contextual); have hoc4 := (hoc2.keep H5.out.undrew (by simp; omega)).keep H1 (by simp; omega); obtain ⟨_, _, ⟨y0, y1⟩, ⟨f0, f1⟩, _⟩ := hoc4.two k hlk; go_simp
            refine hK.out _ _ (by (try dsimp only); (refine ⟨?_, ?_⟩ <;> (rw [World.cell?_setCell_far _ _ _ _ (by simp; omega), World.cell?_setCell_far _ _ _ _ (by simp; omega)]; simp only [hHeld]))) (fun hNew => ?_); clear hK K; clear hHeld; have hHeld := hNew; clear hNew
            (try simp only [Act.put, List.setIfInBounds_toArray, List.set_cons_zero, List.set_cons_succ, List.getElem_toArray, List.getElem_cons_succ, List.getElem_cons_zero])
            refine wpAnyH_done (by decide +kernel) ?_ _
            refine NoPanic.normal ?_; (try simp only [Exit.then])
            go_wp2_with fail
            have hQ : ccn y = qR f cl mu g Sc S0 (xs t) k ∧ ccn z1 = qT1 f cl mu g Sc S0 (xs t) k ∧ ccn z2 = qT2 f cl mu g Sc S0 (xs t) k := by
              obtain ⟨e1, e2, e3⟩ := HY.out
              obtain ⟨g0, g1, g2, g3, g4⟩ := HSC.out
              obtain ⟨h0, h1⟩ := HT.out
              rw [qTv_at _ _ _ _ _ _ _ k _ (by omega)] at h0 h1
              rw [g0, h0, HV.out] at e1
              refine ⟨e1, ?_, ?_⟩
              · rw [e2, g1, g3, h1, HV.out, e1]; rfl
              · rw [e3, g2, g4, HV.out, e1]; rfl
            have hN : cnt (cnt (cnt (cnt ch1 (qN f cl mu g Sc S0 (xs t) k)) (clN f cl mu y)) (clN f cl mu z1)) (clN f cl mu z2) = cnt ch1 (qN f cl mu g Sc S0 (xs t) (k + 1)) := by
              rw [cnt_add, cnt_add, cnt_add, ← clN_cc f cl mu y, ← clN_cc f cl mu z1, ← clN_cc f cl mu z2, hQ.1, hQ.2.1, hQ.2.2]
              simp only [qN, Nat.add_assoc]
            rw [hN] at hbl4
            exact ⟨⟨k + 1, clC f cl mu y, by omega, by go_num, rfl, clC_wf wy, Lib.hid (by rw [clC_cc, hQ.1]; rfl), (hb4.setCell _ _ (.inl (by simp))).setCell _ _ (.inl (by simp)), ((hoc4.set_ (k * 2) (a := clC f cl mu z1) (clC_wf wz1) (by rw [clC_cc, hQ.2.1])).set_ (k * 2 + 1) (a := clC f cl mu z2) (clC_wf wz2) (by rw [clC_cc, hQ.2.2])).congr fun j _ => (qTv_succ _ _ _ _ _ _ _ k j).symm, (((But.refl [sB] w4).setCell _ _ (.inl (by simp))).setCell _ _ (.inl (by simp))).heap hbl4 (by simp; omega)⟩, by simp [intOf]; omega⟩
          case first =>
            refine wp_region_noPanic ?_
            refine wp_region_held_drew (S := fun w' => But [] w1 w' ∧ w'.cell? ⟨B, 0, none⟩ = some (.complex .f64 s0.1 s0.2) ∧ w'.cell? ⟨B, 1, none⟩ = some (.complex .f64 s1.1 s1.2) ∧ w'.cell? ⟨B, 2, none⟩ = some (.complex .f64 s2.1 s2.2) ∧ w'.cell? ⟨B, 3, none⟩ = some (.complex .f64 s3.1 s3.2) ∧ w'.cell? ⟨B, 4, none⟩ = some (.complex .f64 s4.1 s4.2) ∧ w'.cell? ⟨sB, k * 2, none⟩ = some (.complex .f64 t0.1 t0.2) ∧ w'.cell? ⟨sB, k * 2 + 1, none⟩ = some (.complex .f64 t1.1 t1.2)) (by kernel_rfl) ?_ (fun hHeld => ?_)
            · (try dsimp only); exact ⟨(But.refl _ _).drew, d0, d1, d2, d3, d4, b0, b1⟩
            (refine wpAnyH_take (i := 0) (oi := _) (v := _) rfl (by decide +kernel) (by decide +kernel) (by decide +kernel) (fun _ _ _ h => h) (Or.inl ⟨by rfl, by (intro w hSw; (try dsimp only at hSw); go_simp; try with_reducible rfl)⟩) (by assumption) ?_; (try simp only [Act.put, List.setIfInBounds_toArray, List.set_cons_zero, List.set_cons_succ, List.getElem_toArray, List.getElem_cons_succ, List.getElem_cons_zero]))
            (refine wpAnyH_take (i := 1) (oi := _) (v := _) rfl (by decide +kernel) (by decide +kernel) (by decide +kernel) (fun _ _ _ h => h) (Or.inl ⟨by rfl, by (intro w hSw; (try dsimp only at hSw); go_simp; try with_reducible rfl)⟩) (by assumption) ?_; (try simp only [Act.put, List.setIfInBounds_toArray, List.set_cons_zero, List.set_cons_succ, List.getElem_toArray, List.getElem_cons_succ, List.getElem_cons_zero]))
            (refine wpAnyH_take (i := 2) (oi := _) (v := _) rfl (by decide +kernel) (by decide +kernel) (by decide +kernel) (fun _ _ _ h => h) (Or.inl ⟨by rfl, by (intro w hSw; (try dsimp only at hSw); go_simp; try with_reducible rfl)⟩) (by assumption) ?_; (try simp only [Act.put, List.setIfInBounds_toArray, List.set_cons_zero, List.set_cons_succ, List.getElem_toArray, List.getElem_cons_succ, List.getElem_cons_zero]))
            (refine wpAnyH_take (i := 3) (oi := _) (v := _) rfl (by decide +kernel) (by decide +kernel) (by decide +kernel) (fun _ _ _ h => h) (Or.inl ⟨by rfl, by (intro w hSw; (try dsimp only at hSw); go_simp; try with_reducible rfl)⟩) (by assumption) ?_; (try simp only [Act.put, List.setIfInBounds_toArray, List.set_cons_zero, List.set_cons_succ, List.getElem_toArray, List.getElem_cons_succ, List.getElem_cons_zero]))
            (refine wpAnyH_take (i := 4) (oi := _) (v := _) rfl (by decide +kernel) (by decide +kernel) (by decide +kernel) (fun _ _ _ h => h) (Or.inl ⟨by rfl, by (intro w hSw; (try dsimp only at hSw); go_simp; try with_reducible rfl)⟩) (by assumption) ?_; (try simp only [Act.put, List.setIfInBounds_toArray, List.set_cons_zero, List.set_cons_succ, List.getElem_toArray, List.getElem_cons_succ, List.getElem_cons_zero]))
            (refine wpAnyH_take (i := 5) (oi := _) (v := _) rfl (by decide +kernel) (by decide +kernel) (by decide +kernel) (fun _ _ _ h => h) (Or.inl ⟨by rfl, by (intro w hSw; (try dsimp only at hSw); go_simp; try with_reducible rfl)⟩) (by assumption) ?_; (try simp only [Act.put, List.setIfInBounds_toArray, List.set_cons_zero, List.set_cons_succ, List.getElem_toArray, List.getElem_cons_succ, List.getElem_cons_zero]))
            refine wpAnyH_ready (rs := [6, 10]) (by decide +kernel) (by simp) ?_
            refine AllReadyH.cons (o := _) rfl (fun K hK => ?_) ?_
            · go_simp; go_at_call 71; refine (step_c s0 s1 s2 s3 s4 t0 t1 vr _).mono ?_; rintro e w2 ⟨y, z1, z2, rfl, hbd2, wy, wz1, wz2, e1, e2, e3⟩; have hbu := But.of_below (qs := []) hbd2; have hq := hHeld.1.trans hbu; (try (replace hTz := hbu.heap hTz (by simp))); clear hbd2 hbu; have F1 := Lib.hid e1; have F2 := Lib.hid e2; have F3 := Lib.hid e3; clear e1 e2 e3; go_wp2_with fail
              refine hK.out _ _ (by (try dsimp only); exact ⟨hq, hq.cell d0 (by simp), hq.cell d1 (by simp), hq.cell d2 (by simp), hq.cell d3 (by simp), hq.cell d4 (by simp), hq.cell b0 (by simp), hq.cell b1 (by simp)⟩) (fun hNew => ?_); clear hK K; clear hHeld; have hHeld := hNew; clear hNew
              (try simp only [Act.put, List.setIfInBounds_toArray, List.set_cons_zero, List.set_cons_succ, List.getElem_toArray, List.getElem_cons_succ, List.getElem_cons_zero])
              (refine wpAnyH_take (i := 7) (oi := _) (v := _) rfl (by decide +kernel) (by decide +kernel) (by decide +kernel) (fun _ _ _ h => h) (Or.inl ⟨by rfl, by (intro w hSw; (try dsimp only at hSw); go_simp; try with_reducible rfl)⟩) (by assumption) ?_; (try simp only [Act.put, List.setIfInBounds_toArray, List.set_cons_zero, List.set_cons_succ, List.getElem_toArray, List.getElem_cons_succ, List.getElem_cons_zero]))
              (refine wpAnyH_take (i := 8) (oi := _) (v := _) rfl (by decide +kernel) (by decide +kernel) (by decide +kernel) (fun _ _ _ h => h) (Or.inl ⟨by rfl, by (intro w hSw; (try dsimp only at hSw); go_simp; try with_reducible rfl)⟩) (by assumption) ?_; (try simp only [Act.put, List.setIfInBounds_toArray, List.set_cons_zero, List.set_cons_succ, List.getElem_toArray, List.getElem_cons_succ, List.getElem_cons_zero]))
              (refine wpAnyH_take (i := 9) (oi := _) (v := _) rfl (by decide +kernel) (by decide +kernel) (by decide +kernel) (fun _ _ _ h => h) (Or.inl ⟨by rfl, by (intro w hSw; (try dsimp only at hSw); go_simp; try with_reducible rfl)⟩) (by assumption) ?_; (try simp only [Act.put, List.setIfInBounds_toArray, List.set_cons_zero, List.set_cons_succ, List.getElem_toArray, List.getElem_cons_succ, List.getElem_cons_zero]))
              refine wpAnyH_ready (rs := [10]) (by decide +kernel) (by simp) ?_
              refine AllReadyH.cons (o := _) rfl (fun K hK => ?_) AllReadyH.nil
              go_simp; (first | (obtain ⟨T, wz, hTe, hwz, hq, hTz, HT0⟩ : ∃ T wz, w2.heap.size = T ∧ w2.alloc (.cells #[.complex .f64 0 0, .complex .f64 0 0] 71) = wz ∧ But [] w1 wz ∧ wz.heap[T]? = some (.cells #[.complex .f64 0 0, .complex .f64 0 0] 71 (0, 0)) ∧ w1.heap.size ≤ T := ⟨_, _, rfl, rfl, hHeld.1.alloc _, heap_alloc_new _ _, hHeld.1.size⟩) | (obtain ⟨T, wz, hTe, hwz, hq, hTz, HT0⟩ : ∃ T wz, w1.heap.size = T ∧ (w1.alloc (.cells #[.complex .f64 0 0, .complex .f64 0 0] 71)).drew = wz ∧ But [] w1 wz ∧ wz.heap[T]? = some (.cells #[.complex .f64 0 0, .complex .f64 0 0] 71 (0, 0)) ∧ w1.heap.size ≤ T := ⟨_, _, rfl, rfl, ((But.refl [] w1).alloc _).drew, heap_alloc_new w1 _, Nat.le_refl _⟩)); rw [hwz, hTe]; clear hwz; have HTE := Lib.hid hTe; clear hTe
              refine hK.out _ _ (by (try dsimp only); exact ⟨hq, hq.cell d0 (by simp), hq.cell d1 (by simp), hq.cell d2 (by simp), hq.cell d3 (by simp), hq.cell d4 (by simp), hq.cell b0 (by simp), hq.cell b1 (by simp)⟩) (fun hNew => ?_); clear hK K; clear hHeld; have hHeld := hNew; clear hNew
              (try simp only [Act.put, List.setIfInBounds_toArray, List.set_cons_zero, List.set_cons_succ, List.getElem_toArray, List.getElem_cons_succ, List.getElem_cons_zero])
              (refine wpAnyH_take (i := 11) (oi := _) (v := _) rfl (by decide +kernel) (by decide +kernel) (by decide +kernel) (fun _ _ _ h => h) (Or.inl ⟨by rfl, by (intro w hSw; (try dsimp only at hSw); go_simp; try with_reducible rfl)⟩) (by assumption) ?_; (try simp only [Act.put, List.setIfInBounds_toArray, List.set_cons_zero, List.set_cons_succ, List.getElem_toArray, List.getElem_cons_succ, List.getElem_cons_zero]))
              refine wpAnyH_ready (rs := [12]) (by decide +kernel) (by simp) ?_
              refine AllReadyH.cons (o := _) rfl (fun K hK => ?_) AllReadyH.nil
              have hc0 := (cell_of_row _ T 0 _ _ _ hTz).trans (c := some (.complex .f64 0 0)) rfl; have hc1 := (cell_of_row _ T 1 _ _ _ hTz).trans (c := some (.complex .f64 0 0)) rfl; have hz0 := blk_free (i := 0) hTz; have hz1 := blk_free (i := 1) hTz; have HTZ := Lib.hid hTz; clear hTz; go_simp; have hq3 := (hHeld.1.setCell ⟨T, 0, none⟩ (.complex .f64 z1.1 z1.2) (.inr HT0)).setCell ⟨T, 1, none⟩ (.complex .f64 z2.1 z2.2) (.inr HT0)
              refine hK.out _ _ (by (try dsimp only); exact ⟨hq3, hq3.cell d0 (by simp), hq3.cell d1 (by simp), hq3.cell d2 (by simp), hq3.cell d3 (by simp), hq3.cell d4 (by simp), hq3.cell b0 (by simp), hq3.cell b1 (by simp)⟩) (fun hNew => ?_); clear hK K; clear hHeld; have hHeld := hNew; clear hNew
              (try simp only [Act.put, List.setIfInBounds_toArray, List.set_cons_zero, List.set_cons_succ, List.getElem_toArray, List.getElem_cons_succ, List.getElem_cons_zero])
              refine wpAnyH_done (by decide +kernel) ?_ _
              refine NoPanic.normal ?_; (try simp only [Exit.then])
              go_wp2_with fail
              go_meet
              case rel => exact ⟨y, z1, z2, T, rfl, rfl, hHeld.1, (cell_of_row _ T 0 _ _ _ (blk_set _ _ _ _ _ _ (blk_set _ _ _ _ _ _ HTZ.out))).trans rfl, (cell_of_row _ T 1 _ _ _ (blk_set _ _ _ _ _ _ (blk_set _ _ _ _ _ _ HTZ.out))).trans rfl, wy, wz1, wz2, by omega, by omega, ⟨F1.out, F2.out, F3.out⟩⟩
            refine AllReadyH.cons (o := _) rfl (fun K hK => ?_) AllReadyH.nil
            go_simp; (first | (obtain ⟨T, wz, hTe, hwz, hq, hTz, HT0⟩ : ∃ T wz, w2.heap.size = T ∧ w2.alloc (.cells #[.complex .f64 0 0, .complex .f64 0 0] 71) = wz ∧ But [] w1 wz ∧ wz.heap[T]? = some (.cells #[.complex .f64 0 0, .complex .f64 0 0] 71 (0, 0)) ∧ w1.heap.size ≤ T := ⟨_, _, rfl, rfl, hHeld.1.alloc _, heap_alloc_new _ _, hHeld.1.size⟩) | (obtain ⟨T, wz, hTe, hwz, hq, hTz, HT0⟩ : ∃ T wz, w1.heap.size = T ∧ (w1.alloc (.cells #[.complex .f64 0 0, .complex .f64 0 0] 71)).drew = wz ∧ But [] w1 wz ∧ wz.heap[T]? = some (.cells #[.complex .f64 0 0, .complex .f64 0 0] 71 (0, 0)) ∧ w1.heap.size ≤ T := ⟨_, _, rfl, rfl, ((But.refl [] w1).alloc _).drew, heap_alloc_new w1 _, Nat.le_refl _⟩)); rw [hwz, hTe]; clear hwz; have HTE := Lib.hid hTe; clear hTe
            refine hK.out _ _ (by (try dsimp only); exact ⟨hq, hq.cell d0 (by simp), hq.cell d1 (by simp), hq.cell d2 (by simp), hq.cell d3 (by simp), hq.cell d4 (by simp), hq.cell b0 (by simp), hq.cell b1 (by simp)⟩) (fun hNew => ?_); clear hK K; clear hHeld; have hHeld := hNew; clear hNew
            (try simp only [Act.put, List.setIfInBounds_toArray, List.set_cons_zero, List.set_cons_succ, List.getElem_toArray, List.getElem_cons_succ, List.getElem_cons_zero])
            refine wpAnyH_ready (rs := [6]) (by decide +kernel) (by simp) ?_
            refine AllReadyH.cons (o := _) rfl (fun K hK => ?_) AllReadyH.nil
            go_simp; go_at_call 71; refine (step_c s0 s1 s2 s3 s4 t0 t1 vr _).mono ?_; rintro e w2 ⟨y, z1, z2, rfl, hbd2, wy, wz1, wz2, e1, e2, e3⟩; have hbu := But.of_below (qs := []) hbd2; have hq := hHeld.1.trans hbu; (try (replace hTz := hbu.heap hTz (by simp))); clear hbd2 hbu; have F1 := Lib.hid e1; have F2 := Lib.hid e2; have F3 := Lib.hid e3; clear e1 e2 e3; go_wp2_with fail
            refine hK.out _ _ (by (try dsimp only); exact ⟨hq, hq.cell d0 (by simp), hq.cell d1 (by simp), hq.cell d2 (by simp), hq.cell d3 (by simp), hq.cell d4 (by simp), hq.cell b0 (by simp), hq.cell b1 (by simp)⟩) (fun hNew => ?_); clear hK K; clear hHeld; have hHeld := hNew; clear hNew
            (try simp only [Act.put, List.setIfInBounds_toArray, List.set_cons_zero, List.set_cons_succ, List.getElem_toArray, List.getElem_cons_succ, List.getElem_cons_zero])
            (refine wpAnyH_take (i := 7) (oi := _) (v := _) rfl (by decide +kernel) (by decide +kernel) (by decide +kernel) (fun _ _ _ h => h) (Or.inl ⟨by rfl, by (intro w hSw; (try dsimp only at hSw); go_simp; try with_reducible rfl)⟩) (by assumption) ?_; (try simp only [Act.put, List.setIfInBounds_toArray, List.set_cons_zero, List.set_cons_succ, List.getElem_toArray, List.getElem_cons_succ, List.getElem_cons_zero]))
            (refine wpAnyH_take (i := 8) (oi := _) (v := _) rfl (by decide +kernel) (by decide +kernel) (by decide +kernel) (fun _ _ _ h => h) (Or.inl ⟨by rfl, by (intro w hSw; (try dsimp only at hSw); go_simp; try with_reducible rfl)⟩) (by assumption) ?_; (try simp only [Act.put, List.setIfInBounds_toArray, List.set_cons_zero, List.set_cons_succ, List.getElem_toArray, List.getElem_cons_succ, List.getElem_cons_zero]))
            (refine wpAnyH_take (i := 9) (oi := _) (v := _) rfl (by decide +kernel) (by decide +kernel) (by decide +kernel) (fun _ _ _ h => h) (Or.inl ⟨by rfl, by (intro w hSw; (try dsimp only at hSw); go_simp; try with_reducible rfl)⟩) (by assumption) ?_; (try simp only [Act.put, List.setIfInBounds_toArray, List.set_cons_zero, List.set_cons_succ, List.getElem_toArray, List.getElem_cons_succ, List.getElem_cons_zero]))
            (refine wpAnyH_take (i := 11) (oi := _) (v := _) rfl (by decide +kernel) (by decide +kernel) (by decide +kernel) (fun _ _ _ h => h) (Or.inl ⟨by rfl, by (intro w hSw; (try dsimp only at hSw); go_simp; try with_reducible rfl)⟩) (by assumption) ?_; (try simp only [Act.put, List.setIfInBounds_toArray, List.set_cons_zero, List.set_cons_succ, List.getElem_toArray, List.getElem_cons_succ, List.getElem_cons_zero]))
            refine wpAnyH_ready (rs := [12]) (by decide +kernel) (by simp) ?_
            refine AllReadyH.cons (o := _) rfl (fun K hK => ?_) AllReadyH.nil
            have hc0 := (cell_of_row _ T 0 _ _ _ hTz).trans (c := some (.complex .f64 0 0)) rfl; have hc1 := (cell_of_row _ T 1 _ _ _ hTz).trans (c := some (.complex .f64 0 0)) rfl; have hz0 := blk_free (i := 0) hTz; have hz1 := blk_free (i := 1) hTz; have HTZ := Lib.hid hTz; clear hTz; go_simp; have hq3 := (hHeld.1.setCell ⟨T, 0, none⟩ (.complex .f64 z1.1 z1.2) (.inr HT0)).setCell ⟨T, 1, none⟩ (.complex .f64 z2.1 z2.2) (.inr HT0)
            refine hK.out _ _ (by (try dsimp only); exact ⟨hq3, hq3.cell d0 (by simp), hq3.cell d1 (by simp), hq3.cell d2 (by simp), hq3.cell d3 (by simp), hq3.cell d4 (by simp), hq3.cell b0 (by simp), hq3.cell b1 (by simp)⟩) (fun hNew => ?_); clear hK K; clear hHeld; have hHeld := hNew; clear hNew
            (try simp only [Act.put, List.setIfInBounds_toArray, List.set_cons_zero, List.set_cons_succ, List.getElem_toArray, List.getElem_cons_succ, List.getElem_cons_zero])
            refine wpAnyH_done (by decide +kernel) ?_ _
            refine NoPanic.normal ?_; (try simp only [Exit.then])
            go_wp2_with fail
            go_meet
            case rel => exact ⟨y, z1, z2, T, rfl, rfl, hHeld.1, (cell_of_row _ T 0 _ _ _ (blk_set _ _ _ _ _ _ (blk_set _ _ _ _ _ _ HTZ.out))).trans rfl, (cell_of_row _ T 1 _ _ _ (blk_set _ _ _ _ _ _ (blk_set _ _ _ _ _ _ HTZ.out))).trans rfl, wy, wz1, wz2, by omega, by omega, ⟨F1.out, F2.out, F3.out⟩⟩
        · obtain rfl : n = k := by omega
          have hor1 := horD.keep hb1 (fun g hg => by have := (horD.lt g hg).1; simp; omega)
          have hb2 := hbtD.trans hb1
          have s1 := hb2.size
          have HV2 : Hid (ccn vr = qYs f cl mu n g Sc St xs t) := Lib.hid (by rw [HV.out, ← HS.out]; rfl)
          have tok1 : True := trivial
          go_wp2_with (at_builtin; have _t := tok1; refine wpList_append_rc _ rfl _ _ _ rfl w0.heap.size 25 _ 1 16 Try.underlying34 Try.info25 rfl (by omega) u6 t (qYs f cl mu n g Sc St xs) rfl (hor1.alloc _) (some ⟨wr.heap.size, 0, none⟩) wr.heap.size 0 1 1 (fun _ => qYs f cl mu n g Sc St xs t) rfl (fun _ => rfl) (one_rc wr vr.1 vr.2 _ hvw HV2.out) (by omega) (by omega) (by simp; omega) ?_; intro v' wE horE hgr hob _; clear tok1; have hbE : But [d, sB] w0 wE := (hb2.alloc _).grown hgr (fun g hg => .inr (hor1.lt g hg).1); have hocE := (hoc1.keep ((But.refl [] wr).alloc _) (by simp)).keep (But.of_grown hgr) (fun hm => by have := (hor1.lt sB (by simpa using hm)).1; omega); have hblE := (But.of_grown hgr).heap (((But.refl [] wr).alloc _).heap hbl1 (by simp)) (fun hm => by have := (hor1.lt d (by simpa using hm)).1; omega))
          refine ⟨⟨t + 1, by omega, by go_num, hbE, horE.congr fun j hj => ?_, ?_, ?_⟩, by simp [intOf]; omega⟩
          · by_cases hj' : j < t
            · exact cat_lt (by omega)
            · rw [cat_ge (by omega)]; congr 1; omega
          · rw [← HS.out] at hocE; exact hocE
          · rw [hblE, ← HC0.out, cnt_add, ← HS.out]; rfl
    · obtain rfl : m = t := by omega
      have c0 : wr.cell? ⟨d, 0, none⟩ = some (.pointer (some ⟨c, 0, none⟩)) := by rw [cell_of_row wr d 0 _ _ _ hblk]; rfl
      have HBW := Lib.hid hblk
      clear hblk
      go_wp2_with fail
      refine (cset_any c p q n sB 0 sk (some ⟨sB, 0, none⟩) (fun _ => rfl) g Sc St (qSs f cl mu n g Sc St xs m) _ ((hcas.keep hb0 (by simp) (by simp) (by simp)).keep hbt (by simp; omega) (by simp; omega) (by simp; omega)) hoc.rc).mono ?_
      rintro e w2 ⟨rfl, q', hq', hcas2, hb2⟩
      have s1 := hbt.size
      have s2 := hb2.size
      go_wp2_with fail
      go_ret
      exact ⟨u6, q', rfl, (hor.keep hb2 (fun g hg => by have := (hor.lt g hg).1; simp; omega)).base_ (fun g hg => by have := (hor.lt g hg).1; omega), by omega, ⟨hcas2, ⟨gr, A2, k2, hb2.heap HBW.out (by simpa using ndc), hgw, HGC.out, HA2.out⟩, (hsec0.keep hbt (by simp; omega)).keep hb2 (by simpa using Ne.symm nc2), ⟨ndc, ndp, by omega, nd2, nc2⟩, by omega⟩, (((But.refl [d, c] w).then hb0 (by simp)).then hbt (fun i hi hm => by simp at hm ⊢; omega)).then hb2 (by simp +contextual)⟩
end Go.Proofs.Ytnmpofjegepmaaa
