/- The deferred closure of text.read where a fault is recovered. -/
import Derived.Test.YtnghppgpdeghfaaGreatDoorA15
import Derived.Deep.RegionHeld3
namespace Go.Proofs.YtnghppgpdeghfaaGreatDoor
open Go.RowKit Go.Proofs.YtnghppgpdeghfaaGreatDoor.Fl Go.Proofs.YtnghppgpdeghfaaGreatDoor.Pt Go.Proofs.YtnghppgpdeghfaaGreatDoor.Tx

abbrev FV (a c : Nat) : Value := .iface 73 (.agg #[.int .i64 (a : Int), .int .i64 (c : Int)])
theorem fv_assert (a c : Nat) (w : World) : (Instr.typeAssert (FV a c) 20 73 true).run Tryz.prog w = .ok (.tuple #[.agg #[.int .i64 (a : Int), .int .i64 (c : Int)], .bool true]) w := by first | kernel_rfl | simp [go_sem]
theorem fv_rec (a c : Nat) (older : List PanicEntry) (c₀ : Frame) (cs : List Frame) (hu : c₀.mode = .panicking ({ v := FV a c, recovered := false } :: older)) :
    recoverD (c₀ :: cs) = some (FV a c, { c₀ with mode := .panicking ({ v := FV a c, recovered := true } :: older) } :: cs) := by simp only [recoverD, hu]
set_option linter.unusedSimpArgs false in
set_option maxRecDepth 100000 in
set_option maxHeartbeats 4000000 in
theorem catch_panicking (A E : Nat) (a c : Nat) (older : List PanicEntry) (w : World) (hA : w.heap[A]? = some (.cells #[.int .i64 0] 3 (0, 0))) (hE : w.heap[E]? = some (.cells #[.int .i64 0] 23 (0, 0))) (hn : A ≠ E) :
    CallsD Tryz.prog 46 #[.pointer (some ⟨A, 0, none⟩), .pointer (some ⟨E, 0, none⟩)] (.panicking ({ v := FV a c, recovered := false } :: older)) w fun e u' w' =>
      e = .returned (.tuple #[]) ∧ u' = .panicking ({ v := FV a c, recovered := true } :: older) ∧ But [A, E] w w' ∧ w'.heap[A]? = some (.cells #[.int .i64 (a : Int)] 3 (0, 0)) ∧ w'.heap[E]? = some (.cells #[.int .i64 (c : Int)] 23 (0, 0)) := by
  refine callsD_of_wpS Tryz.func46 rfl fun c₀ cs hu => ?_
  show Code.wpS _ _ _ { tmps := #[.pointer (some ⟨A, 0, none⟩), .pointer (some ⟨E, 0, none⟩), undef, undef, undef, undef, undef, undef, undef, undef, undef, undef, undef, undef], defers := [] } _ _
  have hrec := fv_rec a c older c₀ cs hu
  obtain ⟨cs', hcs⟩ : ∃ x, x = ({ c₀ with mode := .panicking ({ v := FV a c, recovered := true } :: older) } :: cs) := ⟨_, rfl⟩
  rw [← hcs] at hrec
  refine wpS_seq ?_
  refine wpS_region_rec _ _ rfl rfl (.inl hrec) ?_
  have hta := fv_assert a c
  unfold FV at *
  clear hu
  go_wp2_with fail
  refine wpS_of_wp ?_
  go_wp2_with fail
  obtain ⟨F, hF⟩ : ∃ F, F = w.heap.size := ⟨_, rfl⟩
  have hAF : A < F := by rw [hF]; exact (Array.getElem?_eq_some_iff.1 hA).1
  have hEF : E < F := by rw [hF]; exact (Array.getElem?_eq_some_iff.1 hE).1
  have hFn : F ∉ [A, E] := by simp; omega
  obtain ⟨wb, hwb⟩ : ∃ x, x = w.alloc (.cells #[.int .i64 (a : Int), .int .i64 (c : Int)] 73) := ⟨_, rfl⟩
  have b0 : But [A, E] w wb := hwb ▸ (But.refl _ w).alloc _
  have b0' : But [] w wb := hwb ▸ (But.refl _ w).alloc _
  have bF : wb.heap[F]? = some (.cells #[.int .i64 (a : Int), .int .i64 (c : Int)] 73 (0, 0)) := by rw [hF, hwb]; show (w.heap.push _)[w.heap.size]? = _; exact Array.getElem?_push_size
  have bA := b0'.heap hA (by simp)
  have bE := b0'.heap hE (by simp)
  have f0 : wb.cell? ⟨F, 0, none⟩ = some (.int .i64 (a : Int)) := by rw [cell_of_row wb F 0 _ _ _ bF]; rfl
  have f1 : wb.cell? ⟨F, 1, none⟩ = some (.int .i64 (c : Int)) := by rw [cell_of_row wb F 1 _ _ _ bF]; rfl
  have a0 : wb.cell? ⟨A, 0, none⟩ = some (.int .i64 0) := by rw [cell_of_row wb A 0 _ _ _ bA]; rfl
  have e0 : wb.cell? ⟨E, 0, none⟩ = some (.int .i64 0) := by rw [cell_of_row wb E 0 _ _ _ bE]; rfl
  have a1 : wb.frozen? ⟨A, 0, none⟩ = false := blk_free bA
  have e1 : wb.frozen? ⟨E, 0, none⟩ = false := blk_free bE
  rw [← hwb, ← hF]
  clear hA hE hF hwb hta
  refine wp_region_noPanic ?_
  refine wp_region_held_drew (S := fun x => But [A, E] wb x ∧ x.cell? ⟨F, 0, none⟩ = some (.int .i64 (a : Int)) ∧ x.cell? ⟨F, 1, none⟩ = some (.int .i64 (c : Int))) (by kernel_rfl) ?_ (fun hHeld => ?_)
  · (try dsimp only); exact ⟨(But.refl _ _).drew, ((But.refl [] wb).drew).cell f0 (by simp), ((But.refl [] wb).drew).cell f1 (by simp)⟩
  (refine wpAnyH_take (i := 0) (oi := _) (v := _) rfl (by decide +kernel) (by decide +kernel) (by decide +kernel) (fun _ _ _ h => h) (Or.inl ⟨by rfl, by (intro w hSw; (try dsimp only at hSw); go_simp; try with_reducible rfl)⟩) (by assumption) ?_; (try simp only [Act.put, List.setIfInBounds_toArray, List.set_cons_zero, List.set_cons_succ, List.getElem_toArray, List.getElem_cons_succ, List.getElem_cons_zero]))
  (refine wpAnyH_take (i := 1) (oi := _) (v := _) rfl (by decide +kernel) (by decide +kernel) (by decide +kernel) (fun _ _ _ h => h) (Or.inl ⟨by rfl, by (intro w hSw; (try dsimp only at hSw); go_simp; try with_reducible rfl)⟩) (by assumption) ?_; (try simp only [Act.put, List.setIfInBounds_toArray, List.set_cons_zero, List.set_cons_succ, List.getElem_toArray, List.getElem_cons_succ, List.getElem_cons_zero]))
  (refine wpAnyH_take (i := 2) (oi := _) (v := _) rfl (by decide +kernel) (by decide +kernel) (by decide +kernel) (fun _ _ _ h => h) (Or.inl ⟨by rfl, by (intro w hSw; (try dsimp only at hSw); go_simp; try with_reducible rfl)⟩) (by assumption) ?_; (try simp only [Act.put, List.setIfInBounds_toArray, List.set_cons_zero, List.set_cons_succ, List.getElem_toArray, List.getElem_cons_succ, List.getElem_cons_zero]))
  (refine wpAnyH_take (i := 3) (oi := _) (v := _) rfl (by decide +kernel) (by decide +kernel) (by decide +kernel) (fun _ _ _ h => h) (Or.inl ⟨by rfl, by (intro w hSw; (try dsimp only at hSw); go_simp; try with_reducible rfl)⟩) (by assumption) ?_; (try simp only [Act.put, List.setIfInBounds_toArray, List.set_cons_zero, List.set_cons_succ, List.getElem_toArray, List.getElem_cons_succ, List.getElem_cons_zero]))
  refine wpAnyH_ready (rs := [4]) (by decide +kernel) (by simp) ?_
  refine AllReadyH.cons (o := _) rfl (fun K hK => ?_) AllReadyH.nil
  go_simp
  refine hK.out _ _ (by (try dsimp only); exact ⟨hHeld.1.setCell _ _ (.inl (by simp)), (hHeld.1.setCell _ _ (.inl (by simp))).cell f0 hFn, (hHeld.1.setCell _ _ (.inl (by simp))).cell f1 hFn⟩) (fun hNew => ?_); clear hK K; clear hHeld; have hHeld := hNew; clear hNew
  (try simp only [Act.put, List.setIfInBounds_toArray, List.set_cons_zero, List.set_cons_succ, List.getElem_toArray, List.getElem_cons_succ, List.getElem_cons_zero])
  refine wpAnyH_ready (rs := [5]) (by decide +kernel) (by simp) ?_
  refine AllReadyH.cons (o := _) rfl (fun K hK => ?_) AllReadyH.nil
  go_simp
  refine hK.out _ _ (by (try dsimp only); exact ⟨hHeld.1.setCell _ _ (.inl (by simp)), (hHeld.1.setCell _ _ (.inl (by simp))).cell f0 hFn, (hHeld.1.setCell _ _ (.inl (by simp))).cell f1 hFn⟩) (fun hNew => ?_); clear hK K; clear hHeld; have hHeld := hNew; clear hNew
  (try simp only [Act.put, List.setIfInBounds_toArray, List.set_cons_zero, List.set_cons_succ, List.getElem_toArray, List.getElem_cons_succ, List.getElem_cons_zero])
  refine wpAnyH_done (by decide +kernel) ?_ _
  refine NoPanic.normal ?_
  refine ⟨rfl, _, hcs, .tuple #[], results_none rfl _ _ _, rfl, rfl, b0.trans hHeld.1, ?_, ?_⟩
  · exact (Below.heap_setCell (wb.setCell ⟨A,0,none⟩ (.int .i64 (a:Int))) ⟨E,0,none⟩ (.int .i64 (c:Int)) A hn).trans (blk_set wb A 0 _ 3 _ bA)
  · exact blk_set (wb.setCell ⟨A,0,none⟩ (.int .i64 (a:Int))) E 0 _ 23 _ ((Below.heap_setCell wb ⟨A,0,none⟩ (.int .i64 (a:Int)) E (Ne.symm hn)).trans bE)
end Go.Proofs.YtnghppgpdeghfaaGreatDoor
