/- cascade.Impulse, (*Cascade).Copy. -/
import Derived.Test.YtnmpofjegepmaaaC7
import Derived.Outline
namespace Go.Proofs.Ytnmpofjegepmaaa
open Go.RowKit Go.Proofs.Ytnmpofjegepmaaa.Fl

def ONE : C := (4607182418800017408, 0)
/-- 1, 0, 0, .. -/
def imp (j : Nat) : C := if j = 0 then ONE else Z0

set_option maxHeartbeats 4000000 in
set_option maxRecDepth 100000 in
theorem cimp_any (m : Nat) (hm0 : 0 < m) (hm : m ≤ 65536) (gr g : C) (n fb fo fk : Nat) (A : Option Addr) (Sc : Nat → C) (w : World) (hg : ccn gr = g) (hgw : wf gr) (hgf : FinC g) (n16 : n ≤ 16) (hA : 0 < n → A = some ⟨fb, fo, none⟩) (hs : RC w fb fo (n * 5) Sc) (hf : ∀ j, j < n * 5 → FinC (Sc j)) :
    Calls Try.prog 17 #[.agg #[.complex .f64 gr.1 gr.2, .slice A n fk], .int .i64 m] w fun e w' => ∃ b, e = .returned (.tuple #[.slice (some ⟨b, 0, none⟩) m m, .int .i64 0]) ∧ w.heap.size ≤ b ∧ OC w' b 25 m (Ys n g Sc (fun _ => Z0) imp) ∧ But [] w w' := by
  have hmk := run_make_row' (P := Try.prog) 34 25 (.complex .f64 0 0) 16 Try.underlying34 Try.info25 rfl .i64 .i64 m (by omega) (by omega)
  have t1 : decide ((m : Int) < 0) = false := by simp
  have t2 : decide ((65536 : Int) < m) = false := by simp; omega
  have t3 : decide ((0 : Int) < m) = true := by simp; omega
  have hex : ∃ w1, w.alloc (.cells #[.complex .f64 gr.1 gr.2, .slice A n fk] 28) = w1 ∧ But [] w w1 ∧ w1.cell? ⟨w.heap.size, 0, none⟩ = some (.complex .f64 gr.1 gr.2) ∧ w1.cell? ⟨w.heap.size, 1, none⟩ = some (.slice A n fk) :=
    ⟨_, rfl, (But.refl _ _).alloc _, by simp [go_sem], by simp [go_sem]⟩
  obtain ⟨w1, hw1, hb1, hc0, hc1⟩ := hex
  have HA := Lib.hid hA
  have HG := Lib.hid hg
  clear hA hg
  go_enter Try.func17, Try.ntmps17
  go_wp2_with (first | (go_at_call 16; refine (cnew_any gr g n fb fo fk A Sc _ HG.out hgw hgf n16 HA.out (hs.keep hb1 (by simp)) hf).mono ?_; rintro e w2 ⟨c, p, q, rfl, hc, hp, hq, hcas, hb2⟩; obtain ⟨w3, hw3, hb3, hoc3⟩ : ∃ w3, w2.alloc (.cells (madeCells #[.complex .f64 0 0] m) 25) = w3 ∧ But [] w2 w3 ∧ OC w3 w2.heap.size 25 m (fun _ => Z0) := ⟨_, rfl, (But.refl _ _).alloc _, zeros_oc w2 25 m (.inl rfl)⟩; have hmk2 := hmk w2; rw [hw3] at hmk2; clear hmk hw3; have hfz := hoc3.free 0; obtain ⟨z, hz, _, _⟩ := hoc3.rc.one 0 hm0; have s1 := hb1.size; have s2 := hb2.size; have s3 := hb3.size; have k1 := hcas.cl; have k2 := hcas.pl; have k3 := hcas.ql; have hb4 : But [w2.heap.size] w3 (w3.setCell ⟨w2.heap.size, 0, none⟩ (V ONE)) := (But.refl _ _).setCell _ _ (.inl (by simp)); have hcas4 := (hcas.keep hb3 (by simp) (by simp) (by simp)).keep1 hb4 (by omega) (by omega) (by omega); have hoc4 := hoc3.set_ 0 (a := ONE) (x := ONE) (by simp [wf, ONE]) (by decide)) | (go_at_call 18; refine (crun_any c p q n w2.heap.size 0 m m _ (.inr ⟨hm0, rfl⟩) (by omega) g imp Sc _ _ (hoc4.rc.congr (fun j _ => rfl)) (by omega) hcas4).mono ?_; rintro e w5 ⟨rfl, hb5, hoc5, hcas5⟩))
  go_ret2
  refine ⟨w3.heap.size, rfl, by omega, ?_, ?_⟩
  · simpa [World.setCell] using hoc5
  · exact (((hb1.trans hb2).trans hb3).then hb4 (fun i hi hm => by simp at hm; omega)).then hb5 (fun i hi hm => by simp at hm; omega)

set_option linter.unusedSimpArgs false in
set_option maxHeartbeats 4000000 in
set_option maxRecDepth 100000 in
theorem ccopy_any (c p q n : Nat) (g : C) (Sc St : Nat → C) (w : World) (h : Cas w c p q n g Sc St) :
    Calls Try.prog 20 #[.pointer (some ⟨c, 0, none⟩)] w fun e w' => ∃ c' p' q', e = .returned (.pointer (some ⟨c', 0, none⟩)) ∧ w.heap.size ≤ c' ∧ w.heap.size ≤ p' ∧ w.heap.size ≤ q' ∧ Cas w' c' p' q' n g Sc St ∧ But [] w w' := by
  obtain ⟨gr, k1, k2, hb, hgw, hgc, hk1, hk2⟩ := h.blk
  have hc0 : w.cell? ⟨c, 0, none⟩ = some (.complex .f64 gr.1 gr.2) := by rw [cell_of_row w c 0 _ _ _ hb]; rfl
  have hc1 : w.cell? ⟨c, 1, none⟩ = some (.slice (some ⟨p, 0, none⟩) n k1) := by rw [cell_of_row w c 1 _ _ _ hb]; rfl
  go_enter Try.func20, Try.ntmps20
  go_wp2
  refine wp_region_noPanic ?_
  refine wp_region_held_drew (S := fun w' => But [] w w' ∧ w'.cell? ⟨c, 0, none⟩ = some (.complex .f64 gr.1 gr.2) ∧ w'.cell? ⟨c, 1, none⟩ = some (.slice (some ⟨p, 0, none⟩) n k1)) (by kernel_rfl) ?_ (fun hHeld => ?_)
  · (try dsimp only); exact ⟨(But.refl _ _).drew, hc0, hc1⟩
  (refine wpAnyH_take (i := 0) (oi := _) (v := _) rfl (by decide +kernel) (by decide +kernel) (by decide +kernel) (fun _ _ _ h => h) (Or.inl ⟨by rfl, by (intro w hSw; (try dsimp only at hSw); go_simp; try with_reducible rfl)⟩) (by assumption) ?_; (try simp only [Act.put, List.setIfInBounds_toArray, List.set_cons_zero, List.set_cons_succ, List.getElem_toArray, List.getElem_cons_succ, List.getElem_cons_zero]))
  (refine wpAnyH_take (i := 1) (oi := _) (v := _) rfl (by decide +kernel) (by decide +kernel) (by decide +kernel) (fun _ _ _ h => h) (Or.inl ⟨by rfl, by (intro w hSw; (try dsimp only at hSw); go_simp; try with_reducible rfl)⟩) (by assumption) ?_; (try simp only [Act.put, List.setIfInBounds_toArray, List.set_cons_zero, List.set_cons_succ, List.getElem_toArray, List.getElem_cons_succ, List.getElem_cons_zero]))
  (refine wpAnyH_take (i := 2) (oi := _) (v := _) rfl (by decide +kernel) (by decide +kernel) (by decide +kernel) (fun _ _ _ h => h) (Or.inl ⟨by rfl, by (intro w hSw; (try dsimp only at hSw); go_simp; try with_reducible rfl)⟩) (by assumption) ?_; (try simp only [Act.put, List.setIfInBounds_toArray, List.set_cons_zero, List.set_cons_succ, List.getElem_toArray, List.getElem_cons_succ, List.getElem_cons_zero]))
  (refine wpAnyH_take (i := 3) (oi := _) (v := _) rfl (by decide +kernel) (by decide +kernel) (by decide +kernel) (fun _ _ _ h => h) (Or.inl ⟨by rfl, by (intro w hSw; (try dsimp only at hSw); go_simp; try with_reducible rfl)⟩) (by assumption) ?_; (try simp only [Act.put, List.setIfInBounds_toArray, List.set_cons_zero, List.set_cons_succ, List.getElem_toArray, List.getElem_cons_succ, List.getElem_cons_zero]))
  (refine wpAnyH_take (i := 5) (oi := _) (v := _) rfl (by decide +kernel) (by decide +kernel) (by decide +kernel) (fun _ _ _ h => h) (Or.inl ⟨by rfl, by (intro w hSw; (try dsimp only at hSw); go_simp; try with_reducible rfl)⟩) (by assumption) ?_; (try simp only [Act.put, List.setIfInBounds_toArray, List.set_cons_zero, List.set_cons_succ, List.getElem_toArray, List.getElem_cons_succ, List.getElem_cons_zero]))
  (refine wpAnyH_take (i := 6) (oi := _) (v := _) rfl (by decide +kernel) (by decide +kernel) (by decide +kernel) (fun _ _ _ h => h) (Or.inl ⟨by rfl, by (intro w hSw; (try dsimp only at hSw); go_simp; try with_reducible rfl)⟩) (by assumption) ?_; (try simp only [Act.put, List.setIfInBounds_toArray, List.set_cons_zero, List.set_cons_succ, List.getElem_toArray, List.getElem_cons_succ, List.getElem_cons_zero]))
  (refine wpAnyH_take (i := 7) (oi := _) (v := _) rfl (by decide +kernel) (by decide +kernel) (by decide +kernel) (fun _ _ _ h => h) (Or.inl ⟨by rfl, by (intro w hSw; (try dsimp only at hSw); go_simp; try with_reducible rfl)⟩) (by assumption) ?_; (try simp only [Act.put, List.setIfInBounds_toArray, List.set_cons_zero, List.set_cons_succ, List.getElem_toArray, List.getElem_cons_succ, List.getElem_cons_zero]))
  (refine wpAnyH_take (i := 8) (oi := _) (v := _) rfl (by decide +kernel) (by decide +kernel) (by decide +kernel) (fun _ _ _ h => h) (Or.inl ⟨by rfl, by (intro w hSw; (try dsimp only at hSw); go_simp; try with_reducible rfl)⟩) (by assumption) ?_; (try simp only [Act.put, List.setIfInBounds_toArray, List.set_cons_zero, List.set_cons_succ, List.getElem_toArray, List.getElem_cons_succ, List.getElem_cons_zero]))
  (refine wpAnyH_take (i := 10) (oi := _) (v := _) rfl (by decide +kernel) (by decide +kernel) (by decide +kernel) (fun _ _ _ h => h) (Or.inl ⟨by rfl, by (intro w hSw; (try dsimp only at hSw); go_simp; try with_reducible rfl)⟩) (by assumption) ?_; (try simp only [Act.put, List.setIfInBounds_toArray, List.set_cons_zero, List.set_cons_succ, List.getElem_toArray, List.getElem_cons_succ, List.getElem_cons_zero]))
  refine wpAnyH_ready (rs := [4]) (by decide +kernel) (by simp) ?_
  refine AllReadyH.cons (o := _) rfl (fun K hK => ?_) AllReadyH.nil
  go_simp
  refine hK.out _ _ (by (try dsimp only); exact ⟨hHeld.1.alloc _, (hHeld.1.alloc _).cell hc0 (by simp), (hHeld.1.alloc _).cell hc1 (by simp)⟩) (fun hNew => ?_); clear hK K; clear hHeld; have hHeld := hNew; clear hNew
  (try simp only [Act.put, List.setIfInBounds_toArray, List.set_cons_zero, List.set_cons_succ, List.getElem_toArray, List.getElem_cons_succ, List.getElem_cons_zero])
  refine wpAnyH_ready (rs := [9]) (by decide +kernel) (by simp) ?_
  refine AllReadyH.cons (o := _) rfl (fun K hK => ?_) AllReadyH.nil
  refine step_append_rc _ rfl _ _ _ rfl w.heap.size 33 _ 5 80 Try.underlying26 Try.info33 rfl (by omega) (.slice (some ⟨w.heap.size, 0, none⟩) 0 0) 0 (fun _ => Z0) rfl (OR.empty w 33 5 _) (some ⟨p, 0, none⟩) p 0 n k1 Sc rfl (fun _ => rfl) (h.sec.keep hHeld.1 (by simp)) (by have := h.n16; omega) (by have := h.n16; omega) (by simp) ?_; intro v' w1 hor hgr hob hnn; have hb1 : But [] w w1 := hHeld.1.grown hgr (fun g hg => by { simp [Value.ownBlock] at hg; exact .inr (by omega) }); obtain ⟨pb, pk, rfl, hpk, hpb, hoc1⟩ := newRow_of (by simpa [cat_zero] using hor) (hnn (by simp)); clear hor hgr hob hnn
  refine hK.out _ _ (by (try dsimp only); exact ⟨hb1, hb1.cell hc0 (by simp), hb1.cell hc1 (by simp)⟩) (fun hNew => ?_); clear hK K; clear hHeld; have hHeld := hNew; clear hNew
  (try simp only [Act.put, List.setIfInBounds_toArray, List.set_cons_zero, List.set_cons_succ, List.getElem_toArray, List.getElem_cons_succ, List.getElem_cons_zero])
  refine wpAnyH_ready (rs := [11]) (by decide +kernel) (by simp) ?_
  refine AllReadyH.cons (o := _) rfl (fun K hK => ?_) AllReadyH.nil
  go_simp; go_at_call 21; refine (cstates_any c p q n g Sc St _ (h.keep hHeld.1 (by simp) (by simp) (by simp))).mono ?_; rintro e w2 ⟨v, rfl, ⟨qb, qk, rfl, hqk, hqb, hoc2⟩, hb2⟩; have hoc1' := hoc1.keep hb2 (by simp); have hw2 := hb1.trans hb2; go_wp2_with fail
  refine hK.out _ _ (by (try dsimp only); exact ⟨hw2, hw2.cell hc0 (by simp), hw2.cell hc1 (by simp)⟩) (fun hNew => ?_); clear hK K; clear hHeld; have hHeld := hNew; clear hNew
  (try simp only [Act.put, List.setIfInBounds_toArray, List.set_cons_zero, List.set_cons_succ, List.getElem_toArray, List.getElem_cons_succ, List.getElem_cons_zero])
  (refine wpAnyH_take (i := 12) (oi := _) (v := _) rfl (by decide +kernel) (by decide +kernel) (by decide +kernel) (fun _ _ _ h => h) (Or.inl ⟨by rfl, by (intro w hSw; (try dsimp only at hSw); go_simp; try with_reducible rfl)⟩) (by assumption) ?_; (try simp only [Act.put, List.setIfInBounds_toArray, List.set_cons_zero, List.set_cons_succ, List.getElem_toArray, List.getElem_cons_succ, List.getElem_cons_zero]))
  refine wpAnyH_ready (rs := [13]) (by decide +kernel) (by simp) ?_
  refine AllReadyH.cons (o := _) rfl (fun K hK => ?_) AllReadyH.nil
  go_simp
  refine hK.out _ _ (by (try dsimp only); exact ⟨hHeld.1.alloc _, (hHeld.1.alloc _).cell hc0 (by simp), (hHeld.1.alloc _).cell hc1 (by simp)⟩) (fun hNew => ?_); clear hK K; clear hHeld; have hHeld := hNew; clear hNew
  (try simp only [Act.put, List.setIfInBounds_toArray, List.set_cons_zero, List.set_cons_succ, List.getElem_toArray, List.getElem_cons_succ, List.getElem_cons_zero])
  (refine wpAnyH_take (i := 14) (oi := _) (v := _) rfl (by decide +kernel) (by decide +kernel) (by decide +kernel) (fun _ _ _ h => h) (Or.inl ⟨by rfl, by (intro w hSw; (try dsimp only at hSw); go_simp; try with_reducible rfl)⟩) (by assumption) ?_; (try simp only [Act.put, List.setIfInBounds_toArray, List.set_cons_zero, List.set_cons_succ, List.getElem_toArray, List.getElem_cons_succ, List.getElem_cons_zero]))
  refine wpAnyH_done (by decide +kernel) ?_ _
  refine NoPanic.normal ?_; (try simp only [Exit.then])
  have hwp : ∃ w3, w2.alloc (.cells #[.complex .f64 gr.1 gr.2, .slice (some ⟨pb, 0, none⟩) n pk, .slice (some ⟨qb, 0, none⟩) n qk] 104) = w3 ∧ But [] w2 w3 ∧ w3.heap[w2.heap.size]? = some (.cells #[V gr, .slice (some ⟨pb, 0, none⟩) n pk, .slice (some ⟨qb, 0, none⟩) n qk] 104 (0, 0)) := ⟨_, rfl, (But.refl _ _).alloc _, heap_alloc_new _ _⟩
  obtain ⟨w3, hw3, hb3, hblk⟩ := hwp
  rw [hw3]
  clear hHeld hw3
  go_wp2_with fail
  go_ret
  have hoc1'' := hoc1'.keep hb3 (by simp)
  have hoc2'' := hoc2.keep hb3 (by simp)
  have s1 := hb1.size
  have s2 := hb2.size
  have l1 := hoc1.lt
  have l2 := hoc2.lt
  have l3 : w1.heap.size ≤ qb := hqb
  exact ⟨_, pb, qb, rfl, by omega, hpb, by omega, ⟨by omega, by omega, by omega, h.n16, hoc1''.lt, ⟨gr, pk, qk, hblk, hgw, hgc, hpk, hqk⟩, hoc1''.rc, hoc2''⟩, hw2.trans hb3⟩
end Go.Proofs.Ytnmpofjegepmaaa
