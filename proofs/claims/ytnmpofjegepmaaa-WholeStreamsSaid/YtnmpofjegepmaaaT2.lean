/- (*Stream).step. -/
import Derived.Test.YtnmpofjegepmaaaT1
import Derived.Deep.CutRange
namespace Go.Proofs.Ytnmpofjegepmaaa
open Go.RowKit Go.Proofs.Ytnmpofjegepmaaa.Fl Go.Proofs.Ytnmpofjegepmaaa.Pt

set_option linter.unusedSimpArgs false in
set_option maxHeartbeats 1000000 in
set_option maxRecDepth 100000 in
theorem sstep_any (d p q n : Nat) (f cl mu : Bool) (at_ ch : Nat) (hch : ch < 18446744073709551616) (g x xr : C) (hx : ccn xr = x) (Sc St : Nat → C) (w : World) (h : Stm w d p q n f cl mu at_ ch g Sc St) :
    Calls Try.prog 86 #[.pointer (some ⟨d, 0, none⟩), .complex .f64 xr.1 xr.2] w fun e w' => ∃ y : C, e = .returned (.complex .f64 y.1 y.2) ∧ wf y ∧ ccn y = qYv f cl mu g Sc St x n ∧ But [d, q] w w' ∧ Stm w' d p q n f cl mu (cnt at_ 1) (cnt ch (qN f cl mu g Sc St x n)) g Sc (qTv f cl mu g Sc St x n) := by
  have hdl := h.dl
  have hql := h.ql
  obtain ⟨n16, ⟨gr, k1, k2, hb, hgw, hgc⟩, hsec, hsta, hpl, ndp, ndq, npq⟩ := h
  have c6 : w.cell? ⟨d, 6, none⟩ = some (.int .u64 (at_ : Int)) := by rw [cell_of_row w d 6 _ _ _ hb]; rfl
  have z6 : w.frozen? ⟨d, 6, none⟩ = false := blk_free hb
  have hwa : IntKind.u64.wrap ((at_ : Int) + 1) = ((cnt at_ 1 : Nat) : Int) := by rw [IntKind.wrap_u64]; unfold cnt; omega
  obtain ⟨wa, hwA, hbA, hblA⟩ : ∃ wa, w.setCell ⟨d, 6, none⟩ (.int .u64 ((cnt at_ 1 : Nat) : Int)) = wa ∧ But [d, q] w wa ∧ wa.heap[d]? = some (.cells #[.complex .f64 gr.1 gr.2, .slice (some ⟨p, 0, none⟩) n k1, .bool f, .bool cl, .bool mu, .slice (some ⟨q, 0, none⟩) n k2, .int .u64 ((cnt at_ 1 : Nat) : Int), .int .u64 (ch : Int)] 120 (0, 0)) := by
    refine ⟨_, rfl, (But.refl _ _).setCell _ _ (.inl (by simp)), ?_⟩
    rw [blk_set _ _ _ _ _ _ hb]; rfl
  have hbs : But [d] w wa := by rw [← hwA]; exact (But.refl _ _).setCell _ _ (.inl (by simp))
  have hsec0 := hsec.keep hbs (by simp; omega)
  have hoc0 := hsta.keep hbs (by simp; omega)
  have c0 : wa.cell? ⟨d, 0, none⟩ = some (.complex .f64 gr.1 gr.2) := by rw [cell_of_row wa d 0 _ _ _ hblA]; rfl
  have c1 : wa.cell? ⟨d, 1, none⟩ = some (.slice (some ⟨p, 0, none⟩) n k1) := by rw [cell_of_row wa d 1 _ _ _ hblA]; rfl
  have HBA := Lib.hid hblA
  have HGC := Lib.hid hgc
  have HX := Lib.hid hx
  have s0 := hbs.size
  clear hb hgc hblA hsec hsta hx hbs
  go_enter Try.func86, Try.ntmps86
  go_wp2_with (go_at_call 50; refine (mul_any _ _ _ _ _).mono ?_; rintro e w' ⟨re, im, nd, rfl, rfl, l1, l2, e1, e2⟩; have E1 := Lib.hid e1; have E2 := Lib.hid e2; clear e1 e2)
  clear c6 z6 hwA hwa
  have hbtD := hbA.drewN nd
  have hsec1 : RC (wa.drewN nd) p 0 (n * 5) Sc := hsec0
  have hoc1 : OC (wa.drewN nd) q 71 (n * 2) St := hoc0
  have HBD : Hid ((wa.drewN nd).heap[d]? = some (.cells #[.complex .f64 gr.1 gr.2, .slice (some ⟨p, 0, none⟩) n k1, .bool f, .bool cl, .bool mu, .slice (some ⟨q, 0, none⟩) n k2, .int .u64 ((cnt at_ 1 : Nat) : Int), .int .u64 (ch : Int)] 120 (0, 0))) := HBA
  clear HBA c0 c1 hbA hsec0 hoc0
  generalize hW1 : wa.drewN nd = W1 at *
  have s1 : w.heap.size ≤ W1.heap.size := by rw [← hW1]; exact s0
  clear hW1 s0
  go_loopw [5, 30] (fun v i wr => ∃ (k : Nat) (vr : C), k ≤ n ∧ i = .int .i64 k ∧ v = .complex .f64 vr.1 vr.2 ∧ wf vr ∧ Hid (ccn vr = qYv f cl mu g Sc St x k) ∧ But [d, q] W1 wr ∧ OC wr q 71 (n * 2) (qTv f cl mu g Sc St x k) ∧ wr.heap[d]? = some (.cells #[.complex .f64 gr.1 gr.2, .slice (some ⟨p, 0, none⟩) n k1, .bool f, .bool cl, .bool mu, .slice (some ⟨q, 0, none⟩) n k2, .int .u64 ((cnt at_ 1 : Nat) : Int), .int .u64 ((cnt ch (qN f cl mu g Sc St x k) : Nat) : Int)] 120 (0, 0))) (fun _ i _ => n - (intOf i).toNat)
  case atStart =>
    refine ⟨0, (re, im), Nat.zero_le _, rfl, rfl, ⟨l1, l2⟩, ?_, But.refl _ _, hoc1.congr fun j _ => (qTv_at _ _ _ _ _ _ _ 0 j (by omega)).symm, by rw [HBD.out]; simp only [qN, cnt_zero hch]⟩
    show ccn (re, im) = cmul g x
    rw [← HGC.out, ← HX.out, cmul_cc]; unfold ccn; rw [E1.out, E2.out]; rfl
  case round =>
    obtain ⟨k, vr, hk, rfl, rfl, hvw, HV, hb1, hocR, hblR⟩ := hrel
    by_cases hlk : k < n
    · obtain ⟨s0, s1', s2, s3, s4, ⟨a0, a1, a2, a3, a4⟩, HSC⟩ := (hsec1.keep hb1 (by simp; omega)).five k hlk
      obtain ⟨t0, t1, ⟨b0, b1⟩, ⟨f0, f1⟩, HT⟩ := hocR.two k hlk
      have b5 : wr.cell? ⟨d, 5, none⟩ = some (.slice (some ⟨q, 0, none⟩) n k2) := by rw [cell_of_row wr d 5 _ _ _ hblR]; rfl
      have HBR := Lib.hid hblR
      clear hblR
      have hex : ∃ w1, wr.alloc (.cells #[.complex .f64 s0.1 s0.2, .complex .f64 s1'.1 s1'.2, .complex .f64 s2.1 s2.2, .complex .f64 s3.1 s3.2, .complex .f64 s4.1 s4.2] 33) = w1 ∧ But [] wr w1 ∧
          w1.cell? ⟨wr.heap.size, 0, none⟩ = some (.complex .f64 s0.1 s0.2) ∧ w1.cell? ⟨wr.heap.size, 1, none⟩ = some (.complex .f64 s1'.1 s1'.2) ∧ w1.cell? ⟨wr.heap.size, 2, none⟩ = some (.complex .f64 s2.1 s2.2) ∧ w1.cell? ⟨wr.heap.size, 3, none⟩ = some (.complex .f64 s3.1 s3.2) ∧ w1.cell? ⟨wr.heap.size, 4, none⟩ = some (.complex .f64 s4.1 s4.2) :=
        ⟨_, rfl, (But.refl _ _).alloc _, by simp [go_sem, World.cell?_alloc_past], by simp [go_sem, World.cell?_alloc_past], by simp [go_sem, World.cell?_alloc_past], by simp [go_sem, World.cell?_alloc_past], by simp [go_sem, World.cell?_alloc_past]⟩
      obtain ⟨w1, hw1, hbA, d0, d1, d2, d3, d4⟩ := hex
      have HW1 := Lib.hid hw1
      clear hw1
      have t1' : (k : Int) < n := by omega
      go_upto_region 6 with fail
      rw [HW1.out]
      replace b0 := hbA.cell b0 (by simp)
      replace b1 := hbA.cell b1 (by simp)
      replace b5 := hbA.cell b5 (by simp)
      clear a0 a1 a2 a3 a4 HW1 f0 f1
      generalize hBB : wr.heap.size = B at *
      have HBB := Lib.hid hBB
      have sA := hbA.size
      have sb1 := hb1.size
      rw [HBB.out] at sA sb1
      clear hBB
      generalize hs1 : s1' = s1 at *
      clear hs1
      go_cut [8, 9] from 31 to 67 (fun s8 s9 wx => ∃ (y z1 z2 : C) (T : Nat), s8 = .complex .f64 y.1 y.2 ∧ s9 = .pointer (some ⟨T, 0, none⟩) ∧ But [] w1 wx ∧ wx.heap[T]? = some (.cells #[.complex .f64 z1.1 z1.2, .complex .f64 z2.1 z2.2] 71 (0, 0)) ∧ wf y ∧ wf z1 ∧ wf z2 ∧ T ≠ d ∧ T ≠ q ∧ W1.heap.size ≤ T ∧ Hid (ccn y = sy (ccn s0) (ccn t0) (ccn vr) ∧ ccn z1 = st1 (ccn s1) (ccn s3) (ccn t1) (ccn vr) (ccn y) ∧ ccn z2 = st2 (ccn s2) (ccn s4) (ccn vr) (ccn y)))
      case rest =>
        obtain ⟨y, z1, z2, T, rfl, rfl, hbx, hTb, wy, wz1, wz2, hTd, hTs, hTw, HY⟩ := hcut
        have hbq := hbA.trans hbx
        have hblx := hbq.heap HBR.out (by simp)
        have hocx := hocR.keep hbq (by simp)
        have hb2 := hb1.then hbq (by simp)
        clear hbA hbx hbq d0 d1 d2 d3 d4 b0 b1 b5
        go_wp2_with fail
        refine (sclean_any d _ _ _ _ f cl mu _ y wy _ hblx).mono ?_
        rintro e w2 ⟨rfl, hbg, hbl2⟩
        have hT2 := hbg.heap hTb (by simpa using hTd)
        have hoc2 := hocx.keep hbg (by simp; omega)
        have hb3 := hb2.then hbg (by simp +contextual)
        have x0 : w2.cell? ⟨T, 0, none⟩ = some (.complex .f64 z1.1 z1.2) := by rw [cell_of_row w2 T 0 _ _ _ hT2]; rfl
        clear hbg hblx hocx hb2 hocR hb1 HBR hTb
        have HT2 := Lib.hid hT2
        clear hT2
        go_wp2_with fail
        refine (sclean_any d _ _ _ _ f cl mu _ z1 wz1 _ hbl2).mono ?_
        rintro e w3 ⟨rfl, hbg, hbl3⟩
        have hT3 := hbg.heap HT2.out (by simpa using hTd)
        have hoc3 := hoc2.keep hbg (by simp; omega)
        have hb4 := hb3.then hbg (by simp +contextual)
        have y0 : w3.cell? ⟨T, 0, none⟩ = some (.complex .f64 z1.1 z1.2) := by rw [cell_of_row w3 T 0 _ _ _ hT3]; rfl
        have y0f : w3.frozen? ⟨T, 0, none⟩ = false := blk_free hT3
        obtain ⟨w4, hw4, hbS, hT4⟩ : ∃ w4, w3.setCell ⟨T, 0, none⟩ (.complex .f64 (clF f cl mu z1.1) (clF f cl mu z1.2)) = w4 ∧ But [T] w3 w4 ∧ w4.heap[T]? = some (.cells #[.complex .f64 (clF f cl mu z1.1) (clF f cl mu z1.2), .complex .f64 z2.1 z2.2] 71 (0, 0)) := ⟨_, rfl, (But.refl _ _).setCell _ _ (.inl (by simp)), by rw [blk_set _ _ _ _ _ _ hT3]; rfl⟩
        have hbl4 := hbS.heap hbl3 (by simpa using Ne.symm hTd)
        have hoc4 := hoc3.keep hbS (by simpa using Ne.symm hTs)
        have y1 : w4.cell? ⟨T, 1, none⟩ = some (.complex .f64 z2.1 z2.2) := by rw [cell_of_row w4 T 1 _ _ _ hT4]; rfl
        have HT4 := Lib.hid hT4
        clear hbg x0 HT2 hoc2 hb3 hT3 hT4 hoc3 hbl3 hbl2
        go_wp2_with fail
        clear hw4 y0 y0f
        refine (sclean_any d _ _ _ _ f cl mu _ z2 wz2 _ hbl4).mono ?_
        rintro e w5 ⟨rfl, hbg, hbl5⟩
        have hT5 := hbg.heap HT4.out (by simpa using hTd)
        have hoc5 := hoc4.keep hbg (by simp; omega)
        have y1' : w5.cell? ⟨T, 1, none⟩ = some (.complex .f64 z2.1 z2.2) := by rw [cell_of_row w5 T 1 _ _ _ hT5]; rfl
        have y1f : w5.frozen? ⟨T, 1, none⟩ = false := blk_free hT5
        obtain ⟨w6, hw6, hbU, hT6⟩ : ∃ w6, w5.setCell ⟨T, 1, none⟩ (.complex .f64 (clF f cl mu z2.1) (clF f cl mu z2.2)) = w6 ∧ But [T] w5 w6 ∧ w6.heap[T]? = some (.cells #[.complex .f64 (clF f cl mu z1.1) (clF f cl mu z1.2), .complex .f64 (clF f cl mu z2.1) (clF f cl mu z2.2)] 71 (0, 0)) := ⟨_, rfl, (But.refl _ _).setCell _ _ (.inl (by simp)), by rw [blk_set _ _ _ _ _ _ hT5]; rfl⟩
        have hbl6 := hbU.heap hbl5 (by simpa using Ne.symm hTd)
        have hoc6 := hoc5.keep hbU (by simpa using Ne.symm hTs)
        have hb6 : But [d, q] W1 w6 := ((hb4.then hbS (fun i hi hm => by simp at hm; omega)).then hbg (by simp +contextual)).then hbU (fun i hi hm => by simp at hm; omega)
        have x0 : w6.cell? ⟨T, 0, none⟩ = some (.complex .f64 (clF f cl mu z1.1) (clF f cl mu z1.2)) := by rw [cell_of_row w6 T 0 _ _ _ hT6]; rfl
        have x1 : w6.cell? ⟨T, 1, none⟩ = some (.complex .f64 (clF f cl mu z2.1) (clF f cl mu z2.2)) := by rw [cell_of_row w6 T 1 _ _ _ hT6]; rfl
        have b5 : w6.cell? ⟨d, 5, none⟩ = some (.slice (some ⟨q, 0, none⟩) n k2) := by rw [cell_of_row w6 d 5 _ _ _ hbl6]; rfl
        obtain ⟨_, _, ⟨v0, v1⟩, ⟨f0, f1⟩, _⟩ := hoc6.two k hlk
        have HB6 := Lib.hid hbl6
        clear hb4 hbS hbg hbU hT5 hT6 hoc4 hoc5 hbl4 hbl5 hbl6 HT4
        go_upto_region 10 with fail
        clear hw6 y1 y1' y1f
        go_wp2_with fail
        refine wp_region_noPanic ?_
        refine wp_region_held_drew (S := fun w' => w'.cell? ⟨T, 0, none⟩ = some (.complex .f64 (clF f cl mu z1.1) (clF f cl mu z1.2)) ∧ w'.cell? ⟨T, 1, none⟩ = some (.complex .f64 (clF f cl mu z2.1) (clF f cl mu z2.2)) ∧ w'.cell? ⟨d, 5, none⟩ = some (.slice (some ⟨q, 0, none⟩) n k2)) (by kernel_rfl) ?_ (fun hHeld => ?_)
        · (try dsimp only); exact ⟨x0, x1, b5⟩
        (refine wpAnyH_take (i := 0) (oi := _) (v := _) rfl (by decide +kernel) (by decide +kernel) (by decide +kernel) (fun _ _ _ h => h) (Or.inl ⟨by rfl, by (intro w hSw; (try dsimp only at hSw); go_simp; try with_reducible rfl)⟩) (by assumption) ?_; (try simp only [Act.put, List.setIfInBounds_toArray, List.set_cons_zero, List.set_cons_succ, List.getElem_toArray, List.getElem_cons_succ, List.getElem_cons_zero]))
        (refine wpAnyH_take (i := 1) (oi := _) (v := _) rfl (by decide +kernel) (by decide +kernel) (by decide +kernel) (fun _ _ _ h => h) (Or.inl ⟨by rfl, by (intro w hSw; (try dsimp only at hSw); go_simp; try with_reducible rfl)⟩) (by assumption) ?_; (try simp only [Act.put, List.setIfInBounds_toArray, List.set_cons_zero, List.set_cons_succ, List.getElem_toArray, List.getElem_cons_succ, List.getElem_cons_zero]))
        (refine wpAnyH_take (i := 2) (oi := _) (v := _) rfl (by decide +kernel) (by decide +kernel) (by decide +kernel) (fun _ _ _ h => h) (Or.inl ⟨by rfl, by (intro w hSw; (try dsimp only at hSw); go_simp; try with_reducible rfl)⟩) (by assumption) ?_; (try simp only [Act.put, List.setIfInBounds_toArray, List.set_cons_zero, List.set_cons_succ, List.getElem_toArray, List.getElem_cons_succ, List.getElem_cons_zero]))
        (refine wpAnyH_take (i := 3) (oi := _) (v := _) rfl (by decide +kernel) (by decide +kernel) (by decide +kernel) (fun _ _ _ h => h) (Or.inl ⟨by rfl, by (intro w hSw; (try dsimp only at hSw); go_simp; try with_reducible rfl)⟩) (by assumption) ?_; (try simp only [Act.put, List.setIfInBounds_toArray, List.set_cons_zero, List.set_cons_succ, List.getElem_toArray, List.getElem_cons_succ, List.getElem_cons_zero]))
        (refine wpAnyH_take (i := 4) (oi := _) (v := _) rfl (by decide +kernel) (by decide +kernel) (by decide +kernel) (fun _ _ _ h => h) (Or.inl ⟨by rfl, by (intro w hSw; (try dsimp only at hSw); go_simp; try with_reducible rfl)⟩) (by assumption) ?_; (try simp only [Act.put, List.setIfInBounds_toArray, List.set_cons_zero, List.set_cons_succ, List.getElem_toArray, List.getElem_cons_succ, List.getElem_cons_zero]))
        (refine wpAnyH_take (i := 5) (oi := _) (v := _) rfl (by decide +kernel) (by decide +kernel) (by decide +kernel) (fun _ _ _ h => h) (Or.inl ⟨by rfl, by (intro w hSw; (try dsimp only at hSw); go_simp; try with_reducible rfl)⟩) (by assumption) ?_; (try simp only [Act.put, List.setIfInBounds_toArray, List.set_cons_zero, List.set_cons_succ, List.getElem_toArray, List.getElem_cons_succ, List.getElem_cons_zero]))
        (refine wpAnyH_take (i := 6) (oi := _) (v := _) rfl (by decide +kernel) (by decide +kernel) (by decide +kernel) (fun _ _ _ h => h) (Or.inl ⟨by rfl, by (intro w hSw; (try dsimp only at hSw); go_simp; try with_reducible rfl)⟩) (by assumption) ?_; (try simp only [Act.put, List.setIfInBounds_toArray, List.set_cons_zero, List.set_cons_succ, List.getElem_toArray, List.getElem_cons_succ, List.getElem_cons_zero]))
        refine wpAnyH_ready (rs := [7]) (by decide +kernel) (by simp) ?_
        refine AllReadyH.cons (o := _) rfl (fun K hK => ?_) AllReadyH.nil
        go_simp
        refine hK.out _ _ (by (try dsimp only); exact ⟨(((But.refl [q] w6).setCell _ _ (.inl (by simp))).setCell _ _ (.inl (by simp))).drew.cell x0 (by simpa using hTs), (((But.refl [q] w6).setCell _ _ (.inl (by simp))).setCell _ _ (.inl (by simp))).drew.cell x1 (by simpa using hTs), (((But.refl [q] w6).setCell _ _ (.inl (by simp))).setCell _ _ (.inl (by simp))).drew.cell b5 (by simpa using ndq)⟩) (fun hNew => ?_); clear hK K; clear hHeld; have hHeld := hNew; clear hNew
        (try simp only [Act.put, List.setIfInBounds_toArray, List.set_cons_zero, List.set_cons_succ, List.getElem_toArray, List.getElem_cons_succ, List.getElem_cons_zero])
        refine wpAnyH_done (by decide +kernel) ?_ _
        refine NoPanic.normal ?_; (try simp only [Exit.then])
        go_wp2_with fail
        have hQ : ccn y = qR f cl mu g Sc St x k ∧ ccn z1 = qT1 f cl mu g Sc St x k ∧ ccn z2 = qT2 f cl mu g Sc St x k := by
          obtain ⟨e1, e2, e3⟩ := HY.out
          obtain ⟨g0, g1, g2, g3, g4⟩ := HSC.out
          obtain ⟨h0, h1⟩ := HT.out
          rw [qTv_at _ _ _ _ _ _ _ k _ (by omega)] at h0 h1
          rw [g0, h0, HV.out] at e1
          refine ⟨e1, ?_, ?_⟩
          · rw [e2, g1, g3, h1, HV.out, e1]; rfl
          · rw [e3, g2, g4, HV.out, e1]; rfl
        have hN : cnt (cnt (cnt (cnt ch (qN f cl mu g Sc St x k)) (clN f cl mu y)) (clN f cl mu z1)) (clN f cl mu z2) = cnt ch (qN f cl mu g Sc St x (k + 1)) := by
          rw [cnt_add, cnt_add, cnt_add, ← clN_cc f cl mu y, ← clN_cc f cl mu z1, ← clN_cc f cl mu z2, hQ.1, hQ.2.1, hQ.2.2]
          simp only [qN, Nat.add_assoc]
        have hbl4 := HB6.out
        rw [hN] at hbl4
        exact ⟨⟨k + 1, clC f cl mu y, by omega, by go_num, rfl, clC_wf wy, Lib.hid (by rw [clC_cc, hQ.1]; rfl), ((hb6.setCell _ _ (.inl (by simp))).setCell _ _ (.inl (by simp))).drew, (((hoc6.set_ (k * 2) (a := clC f cl mu z1) (clC_wf wz1) (by rw [clC_cc, hQ.2.1])).set_ (k * 2 + 1) (a := clC f cl mu z2) (clC_wf wz2) (by rw [clC_cc, hQ.2.2])).congr fun j _ => (qTv_succ _ _ _ _ _ _ _ k j).symm).keep (But.refl [] _).drew (by simp), ((((But.refl [q] w6).setCell _ _ (.inl (by simp))).setCell _ _ (.inl (by simp))).drew).heap hbl4 (by simp; omega)⟩, by simp [intOf]; omega⟩
      case first =>
      refine wp_region_noPanic ?_
      refine wp_region_held_drew (S := fun w' => But [] w1 w' ∧ w'.cell? ⟨B, 0, none⟩ = some (.complex .f64 s0.1 s0.2) ∧ w'.cell? ⟨B, 1, none⟩ = some (.complex .f64 s1.1 s1.2) ∧ w'.cell? ⟨B, 2, none⟩ = some (.complex .f64 s2.1 s2.2) ∧ w'.cell? ⟨B, 3, none⟩ = some (.complex .f64 s3.1 s3.2) ∧ w'.cell? ⟨B, 4, none⟩ = some (.complex .f64 s4.1 s4.2) ∧ w'.cell? ⟨q, k * 2, none⟩ = some (.complex .f64 t0.1 t0.2) ∧ w'.cell? ⟨q, k * 2 + 1, none⟩ = some (.complex .f64 t1.1 t1.2) ∧ w'.cell? ⟨d, 5, none⟩ = some (.slice (some ⟨q, 0, none⟩) n k2)) (by kernel_rfl) ?_ (fun hHeld => ?_)
      · (try dsimp only); exact ⟨(But.refl _ _).drew, d0, d1, d2, d3, d4, b0, b1, b5⟩
      (refine wpAnyH_take (i := 0) (oi := _) (v := _) rfl (by decide +kernel) (by decide +kernel) (by decide +kernel) (fun _ _ _ h => h) (Or.inl ⟨by rfl, by (intro w hSw; (try dsimp only at hSw); go_simp; try with_reducible rfl)⟩) (by assumption) ?_; (try simp only [Act.put, List.setIfInBounds_toArray, List.set_cons_zero, List.set_cons_succ, List.getElem_toArray, List.getElem_cons_succ, List.getElem_cons_zero]))
      (refine wpAnyH_take (i := 1) (oi := _) (v := _) rfl (by decide +kernel) (by decide +kernel) (by decide +kernel) (fun _ _ _ h => h) (Or.inl ⟨by rfl, by (intro w hSw; (try dsimp only at hSw); go_simp; try with_reducible rfl)⟩) (by assumption) ?_; (try simp only [Act.put, List.setIfInBounds_toArray, List.set_cons_zero, List.set_cons_succ, List.getElem_toArray, List.getElem_cons_succ, List.getElem_cons_zero]))
      (refine wpAnyH_take (i := 2) (oi := _) (v := _) rfl (by decide +kernel) (by decide +kernel) (by decide +kernel) (fun _ _ _ h => h) (Or.inl ⟨by rfl, by (intro w hSw; (try dsimp only at hSw); go_simp; try with_reducible rfl)⟩) (by assumption) ?_; (try simp only [Act.put, List.setIfInBounds_toArray, List.set_cons_zero, List.set_cons_succ, List.getElem_toArray, List.getElem_cons_succ, List.getElem_cons_zero]))
      (refine wpAnyH_take (i := 3) (oi := _) (v := _) rfl (by decide +kernel) (by decide +kernel) (by decide +kernel) (fun _ _ _ h => h) (Or.inl ⟨by rfl, by (intro w hSw; (try dsimp only at hSw); go_simp; try with_reducible rfl)⟩) (by assumption) ?_; (try simp only [Act.put, List.setIfInBounds_toArray, List.set_cons_zero, List.set_cons_succ, List.getElem_toArray, List.getElem_cons_succ, List.getElem_cons_zero]))
      (refine wpAnyH_take (i := 4) (oi := _) (v := _) rfl (by decide +kernel) (by decide +kernel) (by decide +kernel) (fun _ _ _ h => h) (Or.inl ⟨by rfl, by (intro w hSw; (try dsimp only at hSw); go_simp; try with_reducible rfl)⟩) (by assumption) ?_; (try simp only [Act.put, List.setIfInBounds_toArray, List.set_cons_zero, List.set_cons_succ, List.getElem_toArray, List.getElem_cons_succ, List.getElem_cons_zero]))
      (refine wpAnyH_take (i := 5) (oi := _) (v := _) rfl (by decide +kernel) (by decide +kernel) (by decide +kernel) (fun _ _ _ h => h) (Or.inl ⟨by rfl, by (intro w hSw; (try dsimp only at hSw); go_simp; try with_reducible rfl)⟩) (by assumption) ?_; (try simp only [Act.put, List.setIfInBounds_toArray, List.set_cons_zero, List.set_cons_succ, List.getElem_toArray, List.getElem_cons_succ, List.getElem_cons_zero]))
      (refine wpAnyH_take (i := 6) (oi := _) (v := _) rfl (by decide +kernel) (by decide +kernel) (by decide +kernel) (fun _ _ _ h => h) (Or.inl ⟨by rfl, by (intro w hSw; (try dsimp only at hSw); go_simp; try with_reducible rfl)⟩) (by assumption) ?_; (try simp only [Act.put, List.setIfInBounds_toArray, List.set_cons_zero, List.set_cons_succ, List.getElem_toArray, List.getElem_cons_succ, List.getElem_cons_zero]))
      (refine wpAnyH_take (i := 7) (oi := _) (v := _) rfl (by decide +kernel) (by decide +kernel) (by decide +kernel) (fun _ _ _ h => h) (Or.inl ⟨by rfl, by (intro w hSw; (try dsimp only at hSw); go_simp; try with_reducible rfl)⟩) (by assumption) ?_; (try simp only [Act.put, List.setIfInBounds_toArray, List.set_cons_zero, List.set_cons_succ, List.getElem_toArray, List.getElem_cons_succ, List.getElem_cons_zero]))
      (refine wpAnyH_take (i := 8) (oi := _) (v := _) rfl (by decide +kernel) (by decide +kernel) (by decide +kernel) (fun _ _ _ h => h) (Or.inl ⟨by rfl, by (intro w hSw; (try dsimp only at hSw); go_simp; try with_reducible rfl)⟩) (by assumption) ?_; (try simp only [Act.put, List.setIfInBounds_toArray, List.set_cons_zero, List.set_cons_succ, List.getElem_toArray, List.getElem_cons_succ, List.getElem_cons_zero]))
      refine wpAnyH_ready (rs := [9, 13]) (by decide +kernel) (by simp) ?_
      refine AllReadyH.cons (o := _) rfl (fun K hK => ?_) ?_
      · go_simp; go_at_call 71; refine (step_c s0 s1 s2 s3 s4 t0 t1 vr _).mono ?_; rintro e w2 ⟨y, z1, z2, rfl, hbd2, wy, wz1, wz2, e1, e2, e3⟩; have hbu := But.of_below (qs := []) hbd2; have hq := hHeld.1.trans hbu; (try (replace hTz := hbu.heap hTz (by simp))); clear hbd2 hbu; have F1 := Lib.hid e1; have F2 := Lib.hid e2; have F3 := Lib.hid e3; clear e1 e2 e3; go_wp2_with fail
        refine hK.out _ _ (by (try dsimp only); exact ⟨hq, hq.cell d0 (by simp), hq.cell d1 (by simp), hq.cell d2 (by simp), hq.cell d3 (by simp), hq.cell d4 (by simp), hq.cell b0 (by simp), hq.cell b1 (by simp), hq.cell b5 (by simp)⟩) (fun hNew => ?_); clear hK K; clear hHeld; have hHeld := hNew; clear hNew
        (try simp only [Act.put, List.setIfInBounds_toArray, List.set_cons_zero, List.set_cons_succ, List.getElem_toArray, List.getElem_cons_succ, List.getElem_cons_zero])
        (refine wpAnyH_take (i := 10) (oi := _) (v := _) rfl (by decide +kernel) (by decide +kernel) (by decide +kernel) (fun _ _ _ h => h) (Or.inl ⟨by rfl, by (intro w hSw; (try dsimp only at hSw); go_simp; try with_reducible rfl)⟩) (by assumption) ?_; (try simp only [Act.put, List.setIfInBounds_toArray, List.set_cons_zero, List.set_cons_succ, List.getElem_toArray, List.getElem_cons_succ, List.getElem_cons_zero]))
        (refine wpAnyH_take (i := 11) (oi := _) (v := _) rfl (by decide +kernel) (by decide +kernel) (by decide +kernel) (fun _ _ _ h => h) (Or.inl ⟨by rfl, by (intro w hSw; (try dsimp only at hSw); go_simp; try with_reducible rfl)⟩) (by assumption) ?_; (try simp only [Act.put, List.setIfInBounds_toArray, List.set_cons_zero, List.set_cons_succ, List.getElem_toArray, List.getElem_cons_succ, List.getElem_cons_zero]))
        (refine wpAnyH_take (i := 12) (oi := _) (v := _) rfl (by decide +kernel) (by decide +kernel) (by decide +kernel) (fun _ _ _ h => h) (Or.inl ⟨by rfl, by (intro w hSw; (try dsimp only at hSw); go_simp; try with_reducible rfl)⟩) (by assumption) ?_; (try simp only [Act.put, List.setIfInBounds_toArray, List.set_cons_zero, List.set_cons_succ, List.getElem_toArray, List.getElem_cons_succ, List.getElem_cons_zero]))
        refine wpAnyH_ready (rs := [13]) (by decide +kernel) (by simp) ?_
        refine AllReadyH.cons (o := _) rfl (fun K hK => ?_) AllReadyH.nil
        go_simp; (first | (obtain ⟨T, wz, hTe, hwz, hq, hTz, HT0⟩ : ∃ T wz, w2.heap.size = T ∧ w2.alloc (.cells #[.complex .f64 0 0, .complex .f64 0 0] 71) = wz ∧ But [] w1 wz ∧ wz.heap[T]? = some (.cells #[.complex .f64 0 0, .complex .f64 0 0] 71 (0, 0)) ∧ w1.heap.size ≤ T := ⟨_, _, rfl, rfl, hHeld.1.alloc _, heap_alloc_new _ _, hHeld.1.size⟩) | (obtain ⟨T, wz, hTe, hwz, hq, hTz, HT0⟩ : ∃ T wz, w1.heap.size = T ∧ (w1.alloc (.cells #[.complex .f64 0 0, .complex .f64 0 0] 71)).drew = wz ∧ But [] w1 wz ∧ wz.heap[T]? = some (.cells #[.complex .f64 0 0, .complex .f64 0 0] 71 (0, 0)) ∧ w1.heap.size ≤ T := ⟨_, _, rfl, rfl, ((But.refl [] w1).alloc _).drew, heap_alloc_new w1 _, Nat.le_refl _⟩)); rw [hwz, hTe]; clear hwz; have HTE := Lib.hid hTe; clear hTe
        refine hK.out _ _ (by (try dsimp only); exact ⟨hq, hq.cell d0 (by simp), hq.cell d1 (by simp), hq.cell d2 (by simp), hq.cell d3 (by simp), hq.cell d4 (by simp), hq.cell b0 (by simp), hq.cell b1 (by simp), hq.cell b5 (by simp)⟩) (fun hNew => ?_); clear hK K; clear hHeld; have hHeld := hNew; clear hNew
        (try simp only [Act.put, List.setIfInBounds_toArray, List.set_cons_zero, List.set_cons_succ, List.getElem_toArray, List.getElem_cons_succ, List.getElem_cons_zero])
        (refine wpAnyH_take (i := 14) (oi := _) (v := _) rfl (by decide +kernel) (by decide +kernel) (by decide +kernel) (fun _ _ _ h => h) (Or.inl ⟨by rfl, by (intro w hSw; (try dsimp only at hSw); go_simp; try with_reducible rfl)⟩) (by assumption) ?_; (try simp only [Act.put, List.setIfInBounds_toArray, List.set_cons_zero, List.set_cons_succ, List.getElem_toArray, List.getElem_cons_succ, List.getElem_cons_zero]))
        refine wpAnyH_ready (rs := [15]) (by decide +kernel) (by simp) ?_
        refine AllReadyH.cons (o := _) rfl (fun K hK => ?_) AllReadyH.nil
        have hc0 := (cell_of_row _ T 0 _ _ _ hTz).trans (c := some (.complex .f64 0 0)) rfl; have hc1 := (cell_of_row _ T 1 _ _ _ hTz).trans (c := some (.complex .f64 0 0)) rfl; have hz0 := blk_free (i := 0) hTz; have hz1 := blk_free (i := 1) hTz; have HTZ := Lib.hid hTz; clear hTz; go_simp; have hq3 := (hHeld.1.setCell ⟨T, 0, none⟩ (.complex .f64 z1.1 z1.2) (.inr HT0)).setCell ⟨T, 1, none⟩ (.complex .f64 z2.1 z2.2) (.inr HT0)
        refine hK.out _ _ (by (try dsimp only); exact ⟨hq3, hq3.cell d0 (by simp), hq3.cell d1 (by simp), hq3.cell d2 (by simp), hq3.cell d3 (by simp), hq3.cell d4 (by simp), hq3.cell b0 (by simp), hq3.cell b1 (by simp), hq3.cell b5 (by simp)⟩) (fun hNew => ?_); clear hK K; clear hHeld; have hHeld := hNew; clear hNew
        (try simp only [Act.put, List.setIfInBounds_toArray, List.set_cons_zero, List.set_cons_succ, List.getElem_toArray, List.getElem_cons_succ, List.getElem_cons_zero])
        refine wpAnyH_done (by decide +kernel) ?_ _
        refine NoPanic.normal ?_; (try simp only [Exit.then])
        go_wp2_with fail
        go_meet
        case rel => exact ⟨y, z1, z2, T, rfl, rfl, hHeld.1, (by rw [blk_set _ _ _ _ _ _ (blk_set _ _ _ _ _ _ HTZ.out)]; rfl), wy, wz1, wz2, by omega, by omega, by omega, ⟨F1.out, F2.out, F3.out⟩⟩
      refine AllReadyH.cons (o := _) rfl (fun K hK => ?_) AllReadyH.nil
      go_simp; (first | (obtain ⟨T, wz, hTe, hwz, hq, hTz, HT0⟩ : ∃ T wz, w2.heap.size = T ∧ w2.alloc (.cells #[.complex .f64 0 0, .complex .f64 0 0] 71) = wz ∧ But [] w1 wz ∧ wz.heap[T]? = some (.cells #[.complex .f64 0 0, .complex .f64 0 0] 71 (0, 0)) ∧ w1.heap.size ≤ T := ⟨_, _, rfl, rfl, hHeld.1.alloc _, heap_alloc_new _ _, hHeld.1.size⟩) | (obtain ⟨T, wz, hTe, hwz, hq, hTz, HT0⟩ : ∃ T wz, w1.heap.size = T ∧ (w1.alloc (.cells #[.complex .f64 0 0, .complex .f64 0 0] 71)).drew = wz ∧ But [] w1 wz ∧ wz.heap[T]? = some (.cells #[.complex .f64 0 0, .complex .f64 0 0] 71 (0, 0)) ∧ w1.heap.size ≤ T := ⟨_, _, rfl, rfl, ((But.refl [] w1).alloc _).drew, heap_alloc_new w1 _, Nat.le_refl _⟩)); rw [hwz, hTe]; clear hwz; have HTE := Lib.hid hTe; clear hTe
      refine hK.out _ _ (by (try dsimp only); exact ⟨hq, hq.cell d0 (by simp), hq.cell d1 (by simp), hq.cell d2 (by simp), hq.cell d3 (by simp), hq.cell d4 (by simp), hq.cell b0 (by simp), hq.cell b1 (by simp), hq.cell b5 (by simp)⟩) (fun hNew => ?_); clear hK K; clear hHeld; have hHeld := hNew; clear hNew
      (try simp only [Act.put, List.setIfInBounds_toArray, List.set_cons_zero, List.set_cons_succ, List.getElem_toArray, List.getElem_cons_succ, List.getElem_cons_zero])
      refine wpAnyH_ready (rs := [9]) (by decide +kernel) (by simp) ?_
      refine AllReadyH.cons (o := _) rfl (fun K hK => ?_) AllReadyH.nil
      go_simp; go_at_call 71; refine (step_c s0 s1 s2 s3 s4 t0 t1 vr _).mono ?_; rintro e w2 ⟨y, z1, z2, rfl, hbd2, wy, wz1, wz2, e1, e2, e3⟩; have hbu := But.of_below (qs := []) hbd2; have hq := hHeld.1.trans hbu; (try (replace hTz := hbu.heap hTz (by simp))); clear hbd2 hbu; have F1 := Lib.hid e1; have F2 := Lib.hid e2; have F3 := Lib.hid e3; clear e1 e2 e3; go_wp2_with fail
      refine hK.out _ _ (by (try dsimp only); exact ⟨hq, hq.cell d0 (by simp), hq.cell d1 (by simp), hq.cell d2 (by simp), hq.cell d3 (by simp), hq.cell d4 (by simp), hq.cell b0 (by simp), hq.cell b1 (by simp), hq.cell b5 (by simp)⟩) (fun hNew => ?_); clear hK K; clear hHeld; have hHeld := hNew; clear hNew
      (try simp only [Act.put, List.setIfInBounds_toArray, List.set_cons_zero, List.set_cons_succ, List.getElem_toArray, List.getElem_cons_succ, List.getElem_cons_zero])
      (refine wpAnyH_take (i := 10) (oi := _) (v := _) rfl (by decide +kernel) (by decide +kernel) (by decide +kernel) (fun _ _ _ h => h) (Or.inl ⟨by rfl, by (intro w hSw; (try dsimp only at hSw); go_simp; try with_reducible rfl)⟩) (by assumption) ?_; (try simp only [Act.put, List.setIfInBounds_toArray, List.set_cons_zero, List.set_cons_succ, List.getElem_toArray, List.getElem_cons_succ, List.getElem_cons_zero]))
      (refine wpAnyH_take (i := 11) (oi := _) (v := _) rfl (by decide +kernel) (by decide +kernel) (by decide +kernel) (fun _ _ _ h => h) (Or.inl ⟨by rfl, by (intro w hSw; (try dsimp only at hSw); go_simp; try with_reducible rfl)⟩) (by assumption) ?_; (try simp only [Act.put, List.setIfInBounds_toArray, List.set_cons_zero, List.set_cons_succ, List.getElem_toArray, List.getElem_cons_succ, List.getElem_cons_zero]))
      (refine wpAnyH_take (i := 12) (oi := _) (v := _) rfl (by decide +kernel) (by decide +kernel) (by decide +kernel) (fun _ _ _ h => h) (Or.inl ⟨by rfl, by (intro w hSw; (try dsimp only at hSw); go_simp; try with_reducible rfl)⟩) (by assumption) ?_; (try simp only [Act.put, List.setIfInBounds_toArray, List.set_cons_zero, List.set_cons_succ, List.getElem_toArray, List.getElem_cons_succ, List.getElem_cons_zero]))
      (refine wpAnyH_take (i := 14) (oi := _) (v := _) rfl (by decide +kernel) (by decide +kernel) (by decide +kernel) (fun _ _ _ h => h) (Or.inl ⟨by rfl, by (intro w hSw; (try dsimp only at hSw); go_simp; try with_reducible rfl)⟩) (by assumption) ?_; (try simp only [Act.put, List.setIfInBounds_toArray, List.set_cons_zero, List.set_cons_succ, List.getElem_toArray, List.getElem_cons_succ, List.getElem_cons_zero]))
      refine wpAnyH_ready (rs := [15]) (by decide +kernel) (by simp) ?_
      refine AllReadyH.cons (o := _) rfl (fun K hK => ?_) AllReadyH.nil
      have hc0 := (cell_of_row _ T 0 _ _ _ hTz).trans (c := some (.complex .f64 0 0)) rfl; have hc1 := (cell_of_row _ T 1 _ _ _ hTz).trans (c := some (.complex .f64 0 0)) rfl; have hz0 := blk_free (i := 0) hTz; have hz1 := blk_free (i := 1) hTz; have HTZ := Lib.hid hTz; clear hTz; go_simp; have hq3 := (hHeld.1.setCell ⟨T, 0, none⟩ (.complex .f64 z1.1 z1.2) (.inr HT0)).setCell ⟨T, 1, none⟩ (.complex .f64 z2.1 z2.2) (.inr HT0)
      refine hK.out _ _ (by (try dsimp only); exact ⟨hq3, hq3.cell d0 (by simp), hq3.cell d1 (by simp), hq3.cell d2 (by simp), hq3.cell d3 (by simp), hq3.cell d4 (by simp), hq3.cell b0 (by simp), hq3.cell b1 (by simp), hq3.cell b5 (by simp)⟩) (fun hNew => ?_); clear hK K; clear hHeld; have hHeld := hNew; clear hNew
      (try simp only [Act.put, List.setIfInBounds_toArray, List.set_cons_zero, List.set_cons_succ, List.getElem_toArray, List.getElem_cons_succ, List.getElem_cons_zero])
      refine wpAnyH_done (by decide +kernel) ?_ _
      refine NoPanic.normal ?_; (try simp only [Exit.then])
      go_wp2_with fail
      go_meet
      case rel => exact ⟨y, z1, z2, T, rfl, rfl, hHeld.1, (by rw [blk_set _ _ _ _ _ _ (blk_set _ _ _ _ _ _ HTZ.out)]; rfl), wy, wz1, wz2, by omega, by omega, by omega, ⟨F1.out, F2.out, F3.out⟩⟩
    · obtain rfl : n = k := by omega
      go_wp2_with fail
      go_ret
      refine ⟨vr, rfl, hvw, HV.out, hbtD.trans hb1, ⟨n16, ⟨gr, k1, k2, hblR, hgw, HGC.out⟩, hsec1.keep hb1 (by simp; omega), hocR, ?_, ndp, ndq, npq⟩⟩
      have := hb1.size; omega
end Go.Proofs.Ytnmpofjegepmaaa
