/- (*Stream).Fork. -/
import Derived.Test.YtnmpofjegepmaaaT3
namespace Go.Proofs.Ytnmpofjegepmaaa
open Go.RowKit Go.Proofs.Ytnmpofjegepmaaa.Fl Go.Proofs.Ytnmpofjegepmaaa.Pt

set_option linter.unusedSimpArgs false in
set_option maxHeartbeats 1000000 in
set_option maxRecDepth 100000 in
theorem sfork_any (d p q n : Nat) (f c m : Bool) (at_ ch : Nat) (g : C) (Sc St : Nat → C) (w : World) (h : Stm w d p q n f c m at_ ch g Sc St) :
    Calls Try.prog 45 #[.pointer (some ⟨d, 0, none⟩)] w fun e w' => ∃ t p' q', e = .returned (.pointer (some ⟨t, 0, none⟩)) ∧ w.heap.size ≤ t ∧ w.heap.size ≤ p' ∧ w.heap.size ≤ q' ∧ Stm w' t p' q' n f c m at_ ch g Sc St ∧ But [] w w' := by
  have hdl := h.dl
  have hql := h.ql
  have HS := Lib.hid h
  obtain ⟨n16, ⟨gr, k1, k2, hb, hgw, hgc⟩, hsec, hsta, hpl, ndp, ndq, npq⟩ := h
  have c0 : w.cell? ⟨d, 0, none⟩ = some (.complex .f64 gr.1 gr.2) := by rw [cell_of_row w d 0 _ _ _ hb]; rfl
  have c1 : w.cell? ⟨d, 1, none⟩ = some (.slice (some ⟨p, 0, none⟩) n k1) := by rw [cell_of_row w d 1 _ _ _ hb]; rfl
  have c2 : w.cell? ⟨d, 2, none⟩ = some (.bool f) := by rw [cell_of_row w d 2 _ _ _ hb]; rfl
  have c3 : w.cell? ⟨d, 3, none⟩ = some (.bool c) := by rw [cell_of_row w d 3 _ _ _ hb]; rfl
  have c4 : w.cell? ⟨d, 4, none⟩ = some (.bool m) := by rw [cell_of_row w d 4 _ _ _ hb]; rfl
  have c5 : w.cell? ⟨d, 5, none⟩ = some (.slice (some ⟨q, 0, none⟩) n k2) := by rw [cell_of_row w d 5 _ _ _ hb]; rfl
  have c6 : w.cell? ⟨d, 6, none⟩ = some (.int .u64 (at_ : Int)) := by rw [cell_of_row w d 6 _ _ _ hb]; rfl
  have c7 : w.cell? ⟨d, 7, none⟩ = some (.int .u64 (ch : Int)) := by rw [cell_of_row w d 7 _ _ _ hb]; rfl
  obtain ⟨w1, hw1, hb1, hblT⟩ : ∃ w1, w.alloc (.cells #[.complex .f64 gr.1 gr.2, .slice (some ⟨p, 0, none⟩) n k1, .bool f, .bool c, .bool m, .slice (some ⟨q, 0, none⟩) n k2, .int .u64 (at_ : Int), .int .u64 (ch : Int)] 120) = w1 ∧ But [] w w1 ∧ w1.heap[w.heap.size]? = some (.cells #[.complex .f64 gr.1 gr.2, .slice (some ⟨p, 0, none⟩) n k1, .bool f, .bool c, .bool m, .slice (some ⟨q, 0, none⟩) n k2, .int .u64 (at_ : Int), .int .u64 (ch : Int)] 120 (0, 0)) := ⟨_, rfl, (But.refl _ _).alloc _, heap_alloc_new _ _⟩
  have hb1' := hb1.heap hb (by simp)
  have d1 : w1.cell? ⟨d, 1, none⟩ = some (.slice (some ⟨p, 0, none⟩) n k1) := by rw [cell_of_row w1 d 1 _ _ _ hb1']; rfl
  have d1a : ∀ o, (w1.alloc o).cell? ⟨d, 1, none⟩ = some (.slice (some ⟨p, 0, none⟩) n k1) := fun o => ((But.refl [] w1).alloc o).cell d1 (by simp)
  have hsec1 := hsec.keep hb1 (by simp)
  have hsta1 := hsta.keep hb1 (by simp)
  have hT1 : w.heap.size < w1.heap.size := (Array.getElem?_eq_some_iff.1 hblT).1
  have HG := Lib.hid hgc
  have HB1 := Lib.hid hb1'
  have HBT := Lib.hid hblT
  clear hb hgc hb1' hblT hsec hsta
  go_enter Try.func45, Try.ntmps45
  go_wp2_with (at_builtin; first
    | (refine wpList_append_rc _ rfl _ _ _ rfl w1.heap.size 33 _ 5 80 Try.underlying26 Try.info33 rfl (by omega) (.slice (some ⟨w1.heap.size, 0, none⟩) 0 0) 0 (fun _ => Z0) rfl (OR.empty w1 33 5 _) (some ⟨p, 0, none⟩) p 0 n k1 Sc rfl (fun _ => rfl) (hsec1.keep ((But.refl [] w1).alloc _) (by simp)) (by omega) (by omega) (by simp) ?_; intro v2 w2 hor2 hgr2 hob2 hnn2; have hbA : But [] w1 w2 := ((But.refl [] w1).alloc _).grown hgr2 (fun g hg => by { simp [Value.ownBlock] at hg; exact .inr (by omega) }); obtain ⟨pb, pk, rfl, hpk, hpb, hocP⟩ := newRow_of (by simpa [cat_zero] using hor2) (hnn2 (by simp)); clear hor2 hgr2 hob2 hnn2; have hbl2 := hbA.heap HBT.out (by simp); have g1 : w2.cell? ⟨w.heap.size, 1, none⟩ = some (.slice (some ⟨p, 0, none⟩) n k1) := (by rw [cell_of_row w2 w.heap.size 1 _ _ _ hbl2]; rfl); have z1 := blk_free (i := 1) hbl2; obtain ⟨w3, hw3, hbB, hbl3⟩ : ∃ w3, w2.setCell ⟨w.heap.size, 1, none⟩ (.slice (some ⟨pb, 0, none⟩) n pk) = w3 ∧ But [w.heap.size] w2 w3 ∧ w3.heap[w.heap.size]? = some (.cells #[.complex .f64 gr.1 gr.2, .slice (some ⟨pb, 0, none⟩) n pk, .bool f, .bool c, .bool m, .slice (some ⟨q, 0, none⟩) n k2, .int .u64 (at_ : Int), .int .u64 (ch : Int)] 120 (0, 0)) := ⟨_, rfl, (But.refl _ _).setCell _ _ (.inl (by simp)), (by rw [blk_set _ _ _ _ _ _ hbl2]; rfl)⟩; have hb3 := hbB.heap (hbA.heap HB1.out (by simp)) (by simp; omega); have d5 : w3.cell? ⟨d, 5, none⟩ = some (.slice (some ⟨q, 0, none⟩) n k2) := (by rw [cell_of_row w3 d 5 _ _ _ hb3]; rfl); have d5a : ∀ o, (w3.alloc o).cell? ⟨d, 5, none⟩ = some (.slice (some ⟨q, 0, none⟩) n k2) := fun o => ((But.refl [] w3).alloc o).cell d5 (by simp); have hsta3 := (hsta1.keep hbA (by simp)).keep hbB (by simp; omega); have HB3 := Lib.hid hb3; have HT3 := Lib.hid hbl3; clear hbl2 hb3 hbl3)
    | (refine wpList_append_rc _ rfl _ _ _ rfl w3.heap.size 71 _ 2 32 Try.underlying50 Try.info71 rfl (by omega) (.slice (some ⟨w3.heap.size, 0, none⟩) 0 0) 0 (fun _ => Z0) rfl (OR.empty w3 71 2 _) (some ⟨q, 0, none⟩) q 0 n k2 St rfl (fun _ => rfl) (hsta3.rc.keep ((But.refl [] w3).alloc _) (by simp)) (by omega) (by omega) (by simp) ?_; intro v4 w4 hor4 hgr4 hob4 hnn4; have hbC : But [] w3 w4 := ((But.refl [] w3).alloc _).grown hgr4 (fun g hg => by { simp [Value.ownBlock] at hg; exact .inr (by omega) }); obtain ⟨qb, qk, rfl, hqk, hqb, hocQ⟩ := newRow_of (by simpa [cat_zero] using hor4) (hnn4 (by simp)); clear hor4 hgr4 hob4 hnn4; have hbl4 := hbC.heap HT3.out (by simp); have g5 : w4.cell? ⟨w.heap.size, 5, none⟩ = some (.slice (some ⟨q, 0, none⟩) n k2) := (by rw [cell_of_row w4 w.heap.size 5 _ _ _ hbl4]; rfl); have z5 := blk_free (i := 5) hbl4; have HT4 := Lib.hid hbl4; clear hbl4))
  go_ret
  have sA := hbA.size
  have sB := hbB.size
  have sC := hbC.size
  have hpl3 := hocP.lt
  have hql4 := hocQ.lt
  have hbD : But [w.heap.size] w4 (w4.setCell ⟨w.heap.size, 5, none⟩ (.slice (some ⟨qb, 0, none⟩) n qk)) := (But.refl _ _).setCell _ _ (.inl (by simp))
  have hocP4 := ((hocP.keep hbB (by simp; omega)).keep hbC (by simp)).keep hbD (by simp; omega)
  refine ⟨w.heap.size, pb, qb, rfl, Nat.le_refl _, by omega, by omega, ⟨n16, ⟨gr, pk, qk, ?_, hgw, HG.out⟩, hocP4.rc, hocQ.keep hbD (by simp; omega), hocP4.lt, by omega, by omega, by omega⟩, ?_⟩
  · rw [blk_set _ _ _ _ _ _ HT4.out]; rfl
  · have k1 : But [] w w3 := (hb1.trans hbA).then hbB (fun i hi hm => by simp at hm; omega)
    exact (k1.trans hbC).then hbD (fun i hi hm => by simp at hm; omega)
end Go.Proofs.Ytnmpofjegepmaaa
