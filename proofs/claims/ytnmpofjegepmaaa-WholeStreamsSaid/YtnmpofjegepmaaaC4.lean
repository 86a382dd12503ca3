/- (*Cascade).Step. -/
import Derived.Test.YtnmpofjegepmaaaM
import Derived.LoopTactic
import Derived.Deep.Cut
import Derived.Outline
namespace Go.Proofs.Ytnmpofjegepmaaa
open Go.RowKit Go.Proofs.Ytnmpofjegepmaaa.Fl

theorem frozen_later {w wx : World} {a : Addr} {v : Value} (hb : Below w.heap.size w wx) (h : w.cell? a = some v) (f : w.frozen? a = false) : wx.frozen? a = false :=
  (hb.frozen (World.block_lt_of_cell? _ _ h)).trans f

set_option linter.unusedSimpArgs false in
set_option maxHeartbeats 4000000 in
set_option maxRecDepth 100000 in
theorem cstep_any (c p q n : Nat) (g x : C) (xr : C) (Sc St : Nat → C) (w : World) (hxc : ccn xr = x) (h : Cas w c p q n g Sc St) :
    Calls Try.prog 19 #[.pointer (some ⟨c, 0, none⟩), .complex .f64 xr.1 xr.2] w fun e w' => ∃ y : C, e = .returned (.complex .f64 y.1 y.2) ∧ wf y ∧ ccn y = Yv g Sc St x n ∧ But [q] w w' ∧ OC w' q 71 (n * 2) (Tv g Sc St x n) := by
  obtain ⟨cp, cq, pq, n16, _, ⟨gr, k1, k2, hb, hgw, hgc, hk1, hk2⟩, hsec, hsta⟩ := h
  have hc0 : w.cell? ⟨c, 0, none⟩ = some (.complex .f64 gr.1 gr.2) := by rw [cell_of_row w c 0 _ _ _ hb]; rfl
  have hc1 : w.cell? ⟨c, 1, none⟩ = some (.slice (some ⟨p, 0, none⟩) n k1) := by rw [cell_of_row w c 1 _ _ _ hb]; rfl
  have HB := Lib.hid hb
  have HG := Lib.hid hgc
  have HX := Lib.hid hxc
  clear hb hgc hxc
  go_enter Try.func19, Try.ntmps19
  go_wp2_with (go_at_call 50; refine (mul_any _ _ _ _ _).mono ?_; rintro e w' ⟨re, im, nd, rfl, rfl, l1, l2, e1, e2⟩)
  have E1 := Lib.hid e1
  have E2 := Lib.hid e2
  clear e1 e2
  go_loopw [5, 21] (fun y i wr => ∃ (k : Nat) (yr : C), k ≤ n ∧ i = .int .i64 k ∧ y = .complex .f64 yr.1 yr.2 ∧ wf yr ∧ Hid (ccn yr = Yv g Sc St x k) ∧ But [q] w wr ∧ OC wr q 71 (n * 2) (Tv g Sc St x k)) (fun _ i _ => n - (intOf i).toNat)
  case atStart =>
    refine ⟨0, (re, im), Nat.zero_le _, rfl, rfl, ⟨l1, l2⟩, ?_, (But.refl _ _).drewN _, ?_⟩
    · show ccn (re, im) = cmul g x
      rw [← HG.out, ← HX.out, cmul_cc]; unfold ccn; rw [E1.out, E2.out]; rfl
    · exact (hsta.keep ((But.refl [] w).drewN nd) (by simp)).congr fun j _ => (Tv_zero g Sc St x j).symm
  case round =>
    obtain ⟨k, yr, hk, rfl, rfl, hy, Hy, hbut, hoc⟩ := hrel
    have hc2 : wr.cell? ⟨c, 2, none⟩ = some (.slice (some ⟨q, 0, none⟩) n k2) := by rw [cell_of_row wr c 2 _ _ _ (hbut.heap HB.out (by simpa using cq))]; rfl
    by_cases hlt : k < n
    · obtain ⟨s0, s1, s2, s3, s4, ⟨a0, a1, a2, a3, a4⟩, HS⟩ := (hsec.keep hbut (by simpa using pq)).five k hlt
      obtain ⟨t0, t1, ⟨b0, b1⟩, ⟨f0, f1⟩, HT⟩ := hoc.two k hlt
      have hqc : q ≠ c := cq.symm
      have hql : q ≠ wr.heap.size := Nat.ne_of_lt (World.block_lt_of_cell? _ _ b0)
      go_wp2
      clear a0 a1 a2 a3 a4
      have hex : ∃ w1, wr.alloc (.cells #[.complex .f64 s0.1 s0.2, .complex .f64 s1.1 s1.2, .complex .f64 s2.1 s2.2, .complex .f64 s3.1 s3.2, .complex .f64 s4.1 s4.2] 33) = w1 ∧ Below wr.heap.size wr w1 ∧
          w1.cell? ⟨wr.heap.size, 0, none⟩ = some (.complex .f64 s0.1 s0.2) ∧ w1.cell? ⟨wr.heap.size, 1, none⟩ = some (.complex .f64 s1.1 s1.2) ∧ w1.cell? ⟨wr.heap.size, 2, none⟩ = some (.complex .f64 s2.1 s2.2) ∧ w1.cell? ⟨wr.heap.size, 3, none⟩ = some (.complex .f64 s3.1 s3.2) ∧ w1.cell? ⟨wr.heap.size, 4, none⟩ = some (.complex .f64 s4.1 s4.2) :=
        ⟨_, rfl, (Below.refl _ _).alloc (Nat.le_refl _) _, by simp [go_sem, World.cell?_alloc_past], by simp [go_sem, World.cell?_alloc_past], by simp [go_sem, World.cell?_alloc_past], by simp [go_sem, World.cell?_alloc_past], by simp [go_sem, World.cell?_alloc_past]⟩
      obtain ⟨w1, hw1, hbw1, d0, d1, d2, d3, d4⟩ := hex
      rw [hw1]
      clear hw1
      have hh1 : But [q] w w1 := hbut.thenB hbw1
      have ho1 : OC w1 q 71 (n * 2) (Tv g Sc St x k) := hoc.keep (But.of_below (qs := []) hbw1) (by simp)
      replace b0 := cell_later hbw1 b0
      replace b1 := cell_later hbw1 b1
      replace f0 : w1.frozen? ⟨q, k * 2, none⟩ = false := ho1.free _
      replace f1 : w1.frozen? ⟨q, k * 2 + 1, none⟩ = false := ho1.free _
      replace hc2 := cell_later hbw1 hc2
      generalize wr.heap.size = B at *
      clear hbut hoc hbw1
      refine wp_region_noPanic ?_
      refine wp_region_held_drew (S := fun w' => w'.cell? ⟨c, 2, none⟩ = some (.slice (some ⟨q, 0, none⟩) n k2) ∧ w'.cell? ⟨B, 0, none⟩ = some (.complex .f64 s0.1 s0.2) ∧ w'.cell? ⟨B, 1, none⟩ = some (.complex .f64 s1.1 s1.2) ∧ w'.cell? ⟨B, 2, none⟩ = some (.complex .f64 s2.1 s2.2) ∧ w'.cell? ⟨B, 3, none⟩ = some (.complex .f64 s3.1 s3.2) ∧ w'.cell? ⟨B, 4, none⟩ = some (.complex .f64 s4.1 s4.2)) (by kernel_rfl) ?_ (fun hHeld => ?_)
      · (try dsimp only); exact ⟨hc2, d0, d1, d2, d3, d4⟩
      (refine wpAnyH_take (i := 0) (oi := _) (v := _) rfl (by decide +kernel) (by decide +kernel) (by decide +kernel) (fun _ _ _ h => h) (Or.inl ⟨by rfl, by (intro w hSw; (try dsimp only at hSw); go_simp; try with_reducible rfl)⟩) (by assumption) ?_; (try simp only [Act.put, List.setIfInBounds_toArray, List.set_cons_zero, List.set_cons_succ, List.getElem_toArray, List.getElem_cons_succ, List.getElem_cons_zero]))
      (refine wpAnyH_take (i := 1) (oi := _) (v := _) rfl (by decide +kernel) (by decide +kernel) (by decide +kernel) (fun _ _ _ h => h) (Or.inl ⟨by rfl, by (intro w hSw; (try dsimp only at hSw); go_simp; try with_reducible rfl)⟩) (by assumption) ?_; (try simp only [Act.put, List.setIfInBounds_toArray, List.set_cons_zero, List.set_cons_succ, List.getElem_toArray, List.getElem_cons_succ, List.getElem_cons_zero]))
      (refine wpAnyH_take (i := 2) (oi := _) (v := _) rfl (by decide +kernel) (by decide +kernel) (by decide +kernel) (fun _ _ _ h => h) (Or.inl ⟨by rfl, by (intro w hSw; (try dsimp only at hSw); go_simp; try with_reducible rfl)⟩) (by assumption) ?_; (try simp only [Act.put, List.setIfInBounds_toArray, List.set_cons_zero, List.set_cons_succ, List.getElem_toArray, List.getElem_cons_succ, List.getElem_cons_zero]))
      (refine wpAnyH_take (i := 3) (oi := _) (v := _) rfl (by decide +kernel) (by decide +kernel) (by decide +kernel) (fun _ _ _ h => h) (Or.inl ⟨by rfl, by (intro w hSw; (try dsimp only at hSw); go_simp; try with_reducible rfl)⟩) (by assumption) ?_; (try simp only [Act.put, List.setIfInBounds_toArray, List.set_cons_zero, List.set_cons_succ, List.getElem_toArray, List.getElem_cons_succ, List.getElem_cons_zero]))
      (refine wpAnyH_take (i := 4) (oi := _) (v := _) rfl (by decide +kernel) (by decide +kernel) (by decide +kernel) (fun _ _ _ h => h) (Or.inl ⟨by rfl, by (intro w hSw; (try dsimp only at hSw); go_simp; try with_reducible rfl)⟩) (by assumption) ?_; (try simp only [Act.put, List.setIfInBounds_toArray, List.set_cons_zero, List.set_cons_succ, List.getElem_toArray, List.getElem_cons_succ, List.getElem_cons_zero]))
      (refine wpAnyH_take (i := 5) (oi := _) (v := _) rfl (by decide +kernel) (by decide +kernel) (by decide +kernel) (fun _ _ _ h => h) (Or.inl ⟨by rfl, by (intro w hSw; (try dsimp only at hSw); go_simp; try with_reducible rfl)⟩) (by assumption) ?_; (try simp only [Act.put, List.setIfInBounds_toArray, List.set_cons_zero, List.set_cons_succ, List.getElem_toArray, List.getElem_cons_succ, List.getElem_cons_zero]))
      (refine wpAnyH_take (i := 6) (oi := _) (v := _) rfl (by decide +kernel) (by decide +kernel) (by decide +kernel) (fun _ _ _ h => h) (Or.inl ⟨by rfl, by (intro w hSw; (try dsimp only at hSw); go_simp; try with_reducible rfl)⟩) (by assumption) ?_; (try simp only [Act.put, List.setIfInBounds_toArray, List.set_cons_zero, List.set_cons_succ, List.getElem_toArray, List.getElem_cons_succ, List.getElem_cons_zero]))
      (refine wpAnyH_take (i := 7) (oi := _) (v := _) rfl (by decide +kernel) (by decide +kernel) (by decide +kernel) (fun _ _ _ h => h) (Or.inl ⟨by rfl, by (intro w hSw; (try dsimp only at hSw); go_simp; try with_reducible rfl)⟩) (by assumption) ?_; (try simp only [Act.put, List.setIfInBounds_toArray, List.set_cons_zero, List.set_cons_succ, List.getElem_toArray, List.getElem_cons_succ, List.getElem_cons_zero]))
      (refine wpAnyH_take (i := 8) (oi := _) (v := _) rfl (by decide +kernel) (by decide +kernel) (by decide +kernel) (fun _ _ _ h => h) (Or.inl ⟨by rfl, by (intro w hSw; (try dsimp only at hSw); go_simp; try with_reducible rfl)⟩) (by assumption) ?_; (try simp only [Act.put, List.setIfInBounds_toArray, List.set_cons_zero, List.set_cons_succ, List.getElem_toArray, List.getElem_cons_succ, List.getElem_cons_zero]))
      (refine wpAnyH_take (i := 9) (oi := _) (v := _) rfl (by decide +kernel) (by decide +kernel) (by decide +kernel) (fun _ _ _ h => h) (Or.inl ⟨by rfl, by (intro w hSw; (try dsimp only at hSw); go_simp; try with_reducible rfl)⟩) (by assumption) ?_; (try simp only [Act.put, List.setIfInBounds_toArray, List.set_cons_zero, List.set_cons_succ, List.getElem_toArray, List.getElem_cons_succ, List.getElem_cons_zero]))
      (refine wpAnyH_take (i := 10) (oi := _) (v := _) rfl (by decide +kernel) (by decide +kernel) (by decide +kernel) (fun _ _ _ h => h) (Or.inl ⟨by rfl, by (intro w hSw; (try dsimp only at hSw); go_simp; try with_reducible rfl)⟩) (by assumption) ?_; (try simp only [Act.put, List.setIfInBounds_toArray, List.set_cons_zero, List.set_cons_succ, List.getElem_toArray, List.getElem_cons_succ, List.getElem_cons_zero]))
      (refine wpAnyH_take (i := 11) (oi := _) (v := _) rfl (by decide +kernel) (by decide +kernel) (by decide +kernel) (fun _ _ _ h => h) (Or.inl ⟨by rfl, by (intro w hSw; (try dsimp only at hSw); go_simp; try with_reducible rfl)⟩) (by assumption) ?_; (try simp only [Act.put, List.setIfInBounds_toArray, List.set_cons_zero, List.set_cons_succ, List.getElem_toArray, List.getElem_cons_succ, List.getElem_cons_zero]))
      (refine wpAnyH_take (i := 13) (oi := _) (v := _) rfl (by decide +kernel) (by decide +kernel) (by decide +kernel) (fun _ _ _ h => h) (Or.inl ⟨by rfl, by (intro w hSw; (try dsimp only at hSw); go_simp; try with_reducible rfl)⟩) (by assumption) ?_; (try simp only [Act.put, List.setIfInBounds_toArray, List.set_cons_zero, List.set_cons_succ, List.getElem_toArray, List.getElem_cons_succ, List.getElem_cons_zero]))
      refine wpAnyH_ready (rs := [12]) (by decide +kernel) (by simp) ?_
      refine AllReadyH.cons (o := _) rfl (fun K hK => ?_) AllReadyH.nil
      go_simp
      refine hK.out _ _ (by (try dsimp only); exact hHeld) (fun hNew => ?_); clear hK K; clear hHeld; have hHeld := hNew; clear hNew
      (try simp only [Act.put, List.setIfInBounds_toArray, List.set_cons_zero, List.set_cons_succ, List.getElem_toArray, List.getElem_cons_succ, List.getElem_cons_zero])
      refine wpAnyH_ready (rs := [14]) (by decide +kernel) (by simp) ?_
      refine AllReadyH.cons (o := _) rfl (fun K hK => ?_) AllReadyH.nil
      (go_simp; go_at_call 71; refine (step_c s0 s1 s2 s3 s4 t0 t1 yr _).mono ?_; rintro e w' ⟨y, z1, z2, rfl, hbd, wy, wz1, wz2, e1, e2, e3⟩; have hbw : Below w1.heap.size w1 w' := ⟨hbd.os, hbd.tape, hbd.output, hbd.size, hbd.block⟩; clear hbd; have ho2 : OC w' q 71 (n * 2) (Tv g Sc St x k) := ho1.keep (But.of_below (qs := []) hbw) (by simp); have hh2 : But [q] w w' := hh1.thenB hbw; clear ho1 hh1; have g0 := cell_later hbw b0; have g1 := cell_later hbw b1; clear b0 b1 f0 f1; have f0 : w'.frozen? ⟨q, k * 2, none⟩ = false := ho2.free _; have f1 : w'.frozen? ⟨q, k * 2 + 1, none⟩ = false := ho2.free _; have E1 := Lib.hid e1; have E2 := Lib.hid e2; have E3 := Lib.hid e3; clear e1 e2 e3; go_wp2_with fail)
      refine hK.out _ _ (by (try dsimp only); exact ⟨cell_later hbw hHeld.1, cell_later hbw hHeld.2.1, cell_later hbw hHeld.2.2.1, cell_later hbw hHeld.2.2.2.1, cell_later hbw hHeld.2.2.2.2.1, cell_later hbw hHeld.2.2.2.2.2⟩) (fun hNew => ?_); clear hK K; clear hHeld; have hHeld := hNew; clear hNew
      (try simp only [Act.put, List.setIfInBounds_toArray, List.set_cons_zero, List.set_cons_succ, List.getElem_toArray, List.getElem_cons_succ, List.getElem_cons_zero])
      (refine wpAnyH_take (i := 15) (oi := _) (v := _) rfl (by decide +kernel) (by decide +kernel) (by decide +kernel) (fun _ _ _ h => h) (Or.inl ⟨by rfl, by (intro w hSw; (try dsimp only at hSw); go_simp; try with_reducible rfl)⟩) (by assumption) ?_; (try simp only [Act.put, List.setIfInBounds_toArray, List.set_cons_zero, List.set_cons_succ, List.getElem_toArray, List.getElem_cons_succ, List.getElem_cons_zero]))
      (refine wpAnyH_take (i := 16) (oi := _) (v := _) rfl (by decide +kernel) (by decide +kernel) (by decide +kernel) (fun _ _ _ h => h) (Or.inl ⟨by rfl, by (intro w hSw; (try dsimp only at hSw); go_simp; try with_reducible rfl)⟩) (by assumption) ?_; (try simp only [Act.put, List.setIfInBounds_toArray, List.set_cons_zero, List.set_cons_succ, List.getElem_toArray, List.getElem_cons_succ, List.getElem_cons_zero]))
      (refine wpAnyH_take (i := 17) (oi := _) (v := _) rfl (by decide +kernel) (by decide +kernel) (by decide +kernel) (fun _ _ _ h => h) (Or.inl ⟨by rfl, by (intro w hSw; (try dsimp only at hSw); go_simp; try with_reducible rfl)⟩) (by assumption) ?_; (try simp only [Act.put, List.setIfInBounds_toArray, List.set_cons_zero, List.set_cons_succ, List.getElem_toArray, List.getElem_cons_succ, List.getElem_cons_zero]))
      (refine wpAnyH_take (i := 18) (oi := _) (v := _) rfl (by decide +kernel) (by decide +kernel) (by decide +kernel) (fun _ _ _ h => h) (Or.inl ⟨by rfl, by (intro w hSw; (try dsimp only at hSw); go_simp; try with_reducible rfl)⟩) (by assumption) ?_; (try simp only [Act.put, List.setIfInBounds_toArray, List.set_cons_zero, List.set_cons_succ, List.getElem_toArray, List.getElem_cons_succ, List.getElem_cons_zero]))
      (refine wpAnyH_take (i := 19) (oi := _) (v := _) rfl (by decide +kernel) (by decide +kernel) (by decide +kernel) (fun _ _ _ h => h) (Or.inl ⟨by rfl, by (intro w hSw; (try dsimp only at hSw); go_simp; try with_reducible rfl)⟩) (by assumption) ?_; (try simp only [Act.put, List.setIfInBounds_toArray, List.set_cons_zero, List.set_cons_succ, List.getElem_toArray, List.getElem_cons_succ, List.getElem_cons_zero]))
      refine wpAnyH_ready (rs := [20]) (by decide +kernel) (by simp) ?_
      refine AllReadyH.cons (o := _) rfl (fun K hK => ?_) AllReadyH.nil
      go_simp
      refine hK.out _ _ (by (try dsimp only); (simp [*, World.cell?_setCell_far]; done)) (fun hNew => ?_); clear hK K; clear hHeld; have hHeld := hNew; clear hNew
      (try simp only [Act.put, List.setIfInBounds_toArray, List.set_cons_zero, List.set_cons_succ, List.getElem_toArray, List.getElem_cons_succ, List.getElem_cons_zero])
      refine wpAnyH_done (by decide +kernel) ?_ _
      refine NoPanic.normal ?_; (try simp only [Exit.then])
      go_wp2
      go_roundw
      case rel =>
        have HT' := HT.out
        rw [Tv_at g Sc St x k (k * 2) (by omega), Tv_at g Sc St x k (k * 2 + 1) (by omega)] at HT'
        have hy1 : ccn y = Yv g Sc St x (k + 1) := by rw [E1.out, HS.out.1, HT'.1, Hy.out]; rfl
        refine ⟨k + 1, y, by omega, by go_num, rfl, wy, hy1, (hh2.setCell _ _ (.inl (by simp))).setCell _ _ (.inl (by simp)), ?_⟩
        refine ((ho2.set_ (k * 2) wz1 (x := T1 g Sc St x k) ?_).set_ (k * 2 + 1) wz2 (x := T2 g Sc St x k) ?_).congr ?_
        · rw [E2.out, HS.out.2.1, HS.out.2.2.2.1, HT'.2, Hy.out, hy1]; rfl
        · rw [E3.out, HS.out.2.2.1, HS.out.2.2.2.2, Hy.out, hy1]; rfl
        · intro j _; rw [Tv_succ]
      case measure => simp [intOf]; omega
    · obtain rfl : n = k := by omega
      go_wp2
      go_ret
      exact ⟨yr, rfl, hy, Hy.out, hbut, hoc⟩

/-- One sample: the answer; what is kept behind it. -/
def stepY (n : Nat) (g : C) (Sc St : Nat → C) (x : C) : C := Yv g Sc St x n
def stepS (n : Nat) (g : C) (Sc St : Nat → C) (x : C) : Nat → C := Tv g Sc St x n
theorem cstep (c p q n : Nat) (g x : C) (xr : C) (Sc St : Nat → C) (w : World) (hxc : ccn xr = x) (h : Cas w c p q n g Sc St) :
    Calls Try.prog 19 #[.pointer (some ⟨c, 0, none⟩), .complex .f64 xr.1 xr.2] w fun e w' => ∃ y : C, e = .returned (.complex .f64 y.1 y.2) ∧ wf y ∧ ccn y = stepY n g Sc St x ∧ But [q] w w' ∧ Cas w' c p q n g Sc (stepS n g Sc St x) := by
  refine (cstep_any c p q n g x xr Sc St w hxc h).mono fun e w' ⟨y, h1, h2, h3, h4, h5⟩ => ⟨y, h1, h2, h3, h4, ?_⟩
  obtain ⟨gr, k1, k2, hb, r⟩ := h.blk
  exact ⟨h.cp, h.cq, h.pq, h.n16, Nat.lt_of_lt_of_le h.pl h4.size, ⟨gr, k1, k2, h4.heap hb (by simpa using h.cq), r⟩, h.sec.keep h4 (by simpa using h.pq), h5⟩

/-- The answers and the states along a list. -/
def Ss (n : Nat) (g : C) (Sc St : Nat → C) (xs : Nat → C) : Nat → Nat → C
  | 0 => St
  | i + 1 => stepS n g Sc (Ss n g Sc St xs i) (xs i)
def Ys (n : Nat) (g : C) (Sc St : Nat → C) (xs : Nat → C) (i : Nat) : C := stepY n g Sc (Ss n g Sc St xs i) (xs i)
theorem Ss_add (n : Nat) (g : C) (Sc St : Nat → C) (xs : Nat → C) (i j : Nat) : Ss n g Sc St xs (i + j) = Ss n g Sc (Ss n g Sc St xs i) (fun k => xs (i + k)) j := by
  induction j with
  | zero => rfl
  | succ j ih => rw [← Nat.add_assoc, Ss, ih]; rfl
theorem Ys_add (n : Nat) (g : C) (Sc St : Nat → C) (xs : Nat → C) (i j : Nat) : Ys n g Sc St xs (i + j) = Ys n g Sc (Ss n g Sc St xs i) (fun k => xs (i + k)) j := by
  unfold Ys; rw [Ss_add]
theorem Ss_congr {n : Nat} {g : C} {Sc St : Nat → C} {xs ys : Nat → C} {i : Nat} (h : ∀ j, j < i → xs j = ys j) : Ss n g Sc St xs i = Ss n g Sc St ys i := by
  induction i with
  | zero => rfl
  | succ i ih => rw [Ss, Ss, ih fun j hj => h j (by omega), h i (by omega)]
theorem Ys_congr {n : Nat} {g : C} {Sc St : Nat → C} {xs ys : Nat → C} {i : Nat} (h : ∀ j, j ≤ i → xs j = ys j) : Ys n g Sc St xs i = Ys n g Sc St ys i := by
  unfold Ys; rw [Ss_congr fun j hj => h j (by omega), h i (Nat.le_refl _)]
end Go.Proofs.Ytnmpofjegepmaaa
