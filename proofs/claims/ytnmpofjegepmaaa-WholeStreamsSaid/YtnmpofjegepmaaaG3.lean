/- (*Guarded).clean, slices.Clone, guard.New. -/
import Derived.Test.YtnmpofjegepmaaaG2
namespace Go.Proofs.Ytnmpofjegepmaaa
open Go.RowKit Go.Proofs.Ytnmpofjegepmaaa.Fl Go.Proofs.Ytnmpofjegepmaaa.Pt

theorem clN_le (f c m : Bool) (a : C) : clN f c m a ≤ 2 := by unfold clN; split <;> split <;> omega
/-- The count, as it wraps. -/
def cnt (ch n : Nat) : Nat := (ch + n) % 18446744073709551616

set_option linter.unusedSimpArgs false in
set_option maxHeartbeats 1000000 in
set_option maxRecDepth 100000 in
theorem gclean_any (d : Nat) (P G S : Value) (f c m : Bool) (ch : Nat) (a : C) (ha : wf a) (w : World) (hb : w.heap[d]? = some (.cells #[P, G, S, .bool f, .bool c, .bool m, .int .u64 (ch : Int)] 117 (0, 0))) :
    Calls Try.prog 79 #[.pointer (some ⟨d, 0, none⟩), .complex .f64 a.1 a.2] w fun e w' => e = .returned (.complex .f64 (clF f c m a.1) (clF f c m a.2)) ∧ But [d] w w' ∧ w'.heap[d]? = some (.cells #[P, G, S, .bool f, .bool c, .bool m, .int .u64 ((cnt ch (clN f c m a) : Nat) : Int)] 117 (0, 0)) := by
  obtain ⟨a1, a2⟩ := ha
  have c3 : w.cell? ⟨d, 3, none⟩ = some (.bool f) := by rw [cell_of_row w d 3 _ _ _ hb]; rfl
  have c4 : w.cell? ⟨d, 4, none⟩ = some (.bool c) := by rw [cell_of_row w d 4 _ _ _ hb]; rfl
  have c5 : w.cell? ⟨d, 5, none⟩ = some (.bool m) := by rw [cell_of_row w d 5 _ _ _ hb]; rfl
  have HB := Lib.hid hb
  clear hb
  go_enter Try.func79, Try.ntmps79
  go_wp2_with fail
  refine (cleanc_any f c m a.1 a.2 a1 a2 _).mono ?_
  rintro e w1 ⟨rfl, hb1⟩
  have hbk := hb1.heap HB.out (by simp)
  have c6 : w1.cell? ⟨d, 6, none⟩ = some (.int .u64 (ch : Int)) := by rw [cell_of_row w1 d 6 _ _ _ hbk]; rfl
  have cz : w1.frozen? ⟨d, 6, none⟩ = false := blk_free hbk
  have HB1 := Lib.hid hbk
  clear c3 c4 c5 hbk
  have hl := clN_le f c m a
  generalize hn : clN f c m (a.1, a.2) = n at *
  have hn' : clN f c m a = n := hn
  have HN := Lib.hid hn'
  clear hn hn'
  have hw : IntKind.u64.wrap ((ch : Int) + n) = ((cnt ch n : Nat) : Int) := by rw [IntKind.wrap_u64]; unfold cnt; omega
  go_wp2_with fail
  go_ret
  refine ⟨rfl, (hb1.weak (by simp)).setCell _ _ (.inl (by simp)), ?_⟩
  rw [HN.out, blk_set _ _ _ _ _ _ HB1.out]; rfl

set_option maxRecDepth 100000 in
/-- slices.Clone. -/
theorem clone_any (n fb fo fk : Nat) (A : Option Addr) (Sc : Nat → C) (w : World) (hA : (A = none ∧ n = 0 ∧ fk = 0) ∨ (∃ a, A = some a ∧ (0 < n → a = ⟨fb, fo, none⟩))) (n16 : n ≤ 16) (hs : RC w fb fo (n * 5) Sc) :
    Calls Try.prog 78 #[.slice A n fk] w fun e w' => ∃ A2 p2 k2, e = .returned (.slice A2 n k2) ∧ (0 < n → A2 = some ⟨p2, 0, none⟩) ∧ RC w' p2 0 (n * 5) Sc ∧ w.heap.size ≤ p2 ∧ But [] w w' := by
  rcases hA with ⟨rfl, rfl, rfl⟩ | ⟨a, rfl, ha⟩
  · have hne := fun W : World => Lib.run_eql_slice_nil (P := Try.prog) W 26 33 none 0 0 0 0 Try.underlying26
    go_enter Try.func78, Try.ntmps78
    go_wp2_with fail
    go_ret
    exact ⟨none, w.heap.size, 0, rfl, fun h => by omega, fun j hj => by omega, Nat.le_refl _, But.refl _ _⟩
  · have HA := Lib.hid ha
    clear ha
    have hne := fun W : World => Lib.run_eql_slice_nil (P := Try.prog) W 26 33 (some a) n fk 0 0 Try.underlying26
    have hs' := hs.keep ((But.refl [] w).alloc (.cells #[] 33)) (by simp)
    go_enter Try.func78, Try.ntmps78
    go_wp2_with (at_builtin; refine wpList_append_rc _ rfl _ _ _ rfl w.heap.size 33 _ 5 80 Try.underlying26 Try.info33 rfl (by omega) (.slice (some ⟨w.heap.size, 0, none⟩) 0 0) 0 (fun _ => Z0) rfl (OR.empty w 33 5 _) (some a) fb fo n fk Sc rfl (fun h => by rw [HA.out h]) hs' (by omega) (by omega) (by simp) ?_; intro v' w' hor hgr hob hnn)
    go_ret
    obtain ⟨pb, pk, rfl, hpk, hpb, hoc⟩ := newRow_of (by simpa [cat_zero] using hor) (hnn (by simp))
    refine ⟨_, pb, pk, rfl, fun _ => rfl, hoc.rc, hpb, ((But.refl _ _).alloc _).grown hgr (fun g hg => ?_)⟩
    simp [Value.ownBlock] at hg; exact .inr (by omega)

/-- A guarded filter lies at d. -/
structure Grd (w : World) (d c p q p2 n : Nat) (f cl m : Bool) (ch : Nat) (g : C) (Sc St : Nat → C) : Prop where
  cas : Cas w c p q n g Sc St
  blk : ∃ (gr : C) (A2 : Option Addr) (k2 : Nat), w.heap[d]? = some (.cells #[.pointer (some ⟨c, 0, none⟩), .complex .f64 gr.1 gr.2, .slice A2 n k2, .bool f, .bool cl, .bool m, .int .u64 (ch : Int)] 117 (0, 0)) ∧ wf gr ∧ ccn gr = g ∧ (0 < n → A2 = some ⟨p2, 0, none⟩)
  sec : RC w p2 0 (n * 5) Sc
  ne : d ≠ c ∧ d ≠ p ∧ d ≠ q ∧ d ≠ p2 ∧ c ≠ p2
  p2l : p2 < w.heap.size

set_option linter.unusedSimpArgs false in
set_option maxHeartbeats 1000000 in
set_option maxRecDepth 100000 in
theorem gnew_any (gr g : C) (n fb fo fk : Nat) (A : Option Addr) (f cl m : Bool) (Sc : Nat → C) (w : World) (hg : ccn gr = g) (hgw : wf gr) (hgf : FinC g) (n16 : n ≤ 16) (hAK : (A = none ∧ n = 0 ∧ fk = 0) ∨ (∃ a, A = some a ∧ (0 < n → a = ⟨fb, fo, none⟩))) (hs : RC w fb fo (n * 5) Sc) (hf : ∀ j, j < n * 5 → FinC (Sc j)) :
    Calls Try.prog 31 #[.agg #[.complex .f64 gr.1 gr.2, .slice A n fk], .agg #[.bool f, .bool cl, .bool m]] w fun e w' => ∃ d c p q p2, e = .returned (.tuple #[.pointer (some ⟨d, 0, none⟩), .int .i64 0]) ∧ w.heap.size ≤ d ∧ w.heap.size ≤ c ∧ w.heap.size ≤ p ∧ w.heap.size ≤ q ∧ w.heap.size ≤ p2 ∧ Grd w' d c p q p2 n f cl m 0 g Sc (fun _ => Z0) ∧ But [] w w' := by
  have hA : 0 < n → A = some ⟨fb, fo, none⟩ := fun h => by
    rcases hAK with ⟨_, h0, _⟩ | ⟨a, rfl, ha⟩
    · omega
    · rw [ha h]
  obtain ⟨w1, hw1, hb1, d0, d1, d2, d3, d4⟩ : ∃ w1, (w.alloc (.cells #[.complex .f64 gr.1 gr.2, .slice A n fk] 28)).alloc (.cells #[.bool f, .bool cl, .bool m] 57) = w1 ∧ But [] w w1 ∧ w1.cell? ⟨w.heap.size, 0, none⟩ = some (.complex .f64 gr.1 gr.2) ∧ w1.cell? ⟨w.heap.size, 1, none⟩ = some (.slice A n fk) ∧ w1.cell? ⟨w.heap.size + 1, 0, none⟩ = some (.bool f) ∧ w1.cell? ⟨w.heap.size + 1, 1, none⟩ = some (.bool cl) ∧ w1.cell? ⟨w.heap.size + 1, 2, none⟩ = some (.bool m) :=
    ⟨_, rfl, ((But.refl _ _).alloc _).alloc _, by simp [go_sem, World.cell?_alloc_past], by simp [go_sem, World.cell?_alloc_past], by simp [go_sem, World.cell?_alloc_past], by simp [go_sem, World.cell?_alloc_past], by simp [go_sem, World.cell?_alloc_past]⟩
  have HA := Lib.hid hA
  have HG := Lib.hid hg
  have HAK := Lib.hid hAK
  clear hA hg hAK
  go_enter Try.func31, Try.ntmps31
  go_wp2_with fail
  refine (cnew_any gr g n fb fo fk A Sc _ HG.out hgw hgf n16 HA.out (hs.keep hb1 (by simp)) hf).mono ?_
  rintro e wb ⟨c, p, q, rfl, hc, hp, hq', hcas, hb2⟩
  have e0 := hb2.cell d0 (by simp)
  have e1 := hb2.cell d1 (by simp)
  have e2 := hb2.cell d2 (by simp)
  have e3 := hb2.cell d3 (by simp)
  have e4 := hb2.cell d4 (by simp)
  have hs3 := (hs.keep hb1 (by simp)).keep hb2 (by simp)
  have hbb := hb1.trans hb2
  have sz1 := hb1.size
  clear hw1 d0 d1 d2 d3 d4
  go_wp2_with fail
  refine wp_region_noPanic ?_
  refine wp_region_held_drew (S := fun w' => But [] wb w' ∧ w'.cell? ⟨w.heap.size, 0, none⟩ = some (.complex .f64 gr.1 gr.2) ∧ w'.cell? ⟨w.heap.size, 1, none⟩ = some (.slice A n fk) ∧ w'.cell? ⟨w.heap.size + 1, 0, none⟩ = some (.bool f) ∧ w'.cell? ⟨w.heap.size + 1, 1, none⟩ = some (.bool cl) ∧ w'.cell? ⟨w.heap.size + 1, 2, none⟩ = some (.bool m)) (by kernel_rfl) ?_ (fun hHeld => ?_)
  · (try dsimp only); exact ⟨(But.refl _ _).drew, e0, e1, e2, e3, e4⟩
  (refine wpAnyH_take (i := 0) (oi := _) (v := _) rfl (by decide +kernel) (by decide +kernel) (by decide +kernel) (fun _ _ _ h => h) (Or.inl ⟨by rfl, by (intro w hSw; (try dsimp only at hSw); go_simp; try with_reducible rfl)⟩) (by assumption) ?_; (try simp only [Act.put, List.setIfInBounds_toArray, List.set_cons_zero, List.set_cons_succ, List.getElem_toArray, List.getElem_cons_succ, List.getElem_cons_zero]))
  (refine wpAnyH_take (i := 1) (oi := _) (v := _) rfl (by decide +kernel) (by decide +kernel) (by decide +kernel) (fun _ _ _ h => h) (Or.inl ⟨by rfl, by (intro w hSw; (try dsimp only at hSw); go_simp; try with_reducible rfl)⟩) (by assumption) ?_; (try simp only [Act.put, List.setIfInBounds_toArray, List.set_cons_zero, List.set_cons_succ, List.getElem_toArray, List.getElem_cons_succ, List.getElem_cons_zero]))
  (refine wpAnyH_take (i := 2) (oi := _) (v := _) rfl (by decide +kernel) (by decide +kernel) (by decide +kernel) (fun _ _ _ h => h) (Or.inl ⟨by rfl, by (intro w hSw; (try dsimp only at hSw); go_simp; try with_reducible rfl)⟩) (by assumption) ?_; (try simp only [Act.put, List.setIfInBounds_toArray, List.set_cons_zero, List.set_cons_succ, List.getElem_toArray, List.getElem_cons_succ, List.getElem_cons_zero]))
  (refine wpAnyH_take (i := 3) (oi := _) (v := _) rfl (by decide +kernel) (by decide +kernel) (by decide +kernel) (fun _ _ _ h => h) (Or.inl ⟨by rfl, by (intro w hSw; (try dsimp only at hSw); go_simp; try with_reducible rfl)⟩) (by assumption) ?_; (try simp only [Act.put, List.setIfInBounds_toArray, List.set_cons_zero, List.set_cons_succ, List.getElem_toArray, List.getElem_cons_succ, List.getElem_cons_zero]))
  (refine wpAnyH_take (i := 4) (oi := _) (v := _) rfl (by decide +kernel) (by decide +kernel) (by decide +kernel) (fun _ _ _ h => h) (Or.inl ⟨by rfl, by (intro w hSw; (try dsimp only at hSw); go_simp; try with_reducible rfl)⟩) (by assumption) ?_; (try simp only [Act.put, List.setIfInBounds_toArray, List.set_cons_zero, List.set_cons_succ, List.getElem_toArray, List.getElem_cons_succ, List.getElem_cons_zero]))
  (refine wpAnyH_take (i := 6) (oi := _) (v := _) rfl (by decide +kernel) (by decide +kernel) (by decide +kernel) (fun _ _ _ h => h) (Or.inl ⟨by rfl, by (intro w hSw; (try dsimp only at hSw); go_simp; try with_reducible rfl)⟩) (by assumption) ?_; (try simp only [Act.put, List.setIfInBounds_toArray, List.set_cons_zero, List.set_cons_succ, List.getElem_toArray, List.getElem_cons_succ, List.getElem_cons_zero]))
  refine wpAnyH_ready (rs := [5]) (by decide +kernel) (by simp) ?_
  refine AllReadyH.cons (o := _) rfl (fun K hK => ?_) AllReadyH.nil
  go_simp; go_at_call 78; refine (clone_any n fb fo fk A Sc _ HAK.out n16 (hs3.keep hHeld.1 (by simp))).mono ?_; rintro e w4 ⟨A2, p2, k2, rfl, hA2, hrc2, hp2, hb4⟩; have HA2 := Lib.hid hA2; clear hA2; have hq := hHeld.1.trans hb4; go_wp2_with fail
  refine hK.out _ _ (by (try dsimp only); exact ⟨hq, hq.cell e0 (by simp), hq.cell e1 (by simp), hq.cell e2 (by simp), hq.cell e3 (by simp), hq.cell e4 (by simp)⟩) (fun hNew => ?_); clear hK K; clear hHeld; have hHeld := hNew; clear hNew
  (try simp only [Act.put, List.setIfInBounds_toArray, List.set_cons_zero, List.set_cons_succ, List.getElem_toArray, List.getElem_cons_succ, List.getElem_cons_zero])
  (refine wpAnyH_take (i := 7) (oi := _) (v := _) rfl (by decide +kernel) (by decide +kernel) (by decide +kernel) (fun _ _ _ h => h) (Or.inl ⟨by rfl, by (intro w hSw; (try dsimp only at hSw); go_simp; try with_reducible rfl)⟩) (by assumption) ?_; (try simp only [Act.put, List.setIfInBounds_toArray, List.set_cons_zero, List.set_cons_succ, List.getElem_toArray, List.getElem_cons_succ, List.getElem_cons_zero]))
  refine wpAnyH_ready (rs := [8]) (by decide +kernel) (by simp) ?_
  refine AllReadyH.cons (o := _) rfl (fun K hK => ?_) AllReadyH.nil
  go_simp
  refine hK.out _ _ (by (try dsimp only); have hq2 := hHeld.1.alloc (.cells #[.pointer (some ⟨c, 0, none⟩), .complex .f64 gr.1 gr.2, .slice A2 n k2, .bool f, .bool cl, .bool m, .int .u64 0] 117); exact ⟨hq2, hq2.cell e0 (by simp), hq2.cell e1 (by simp), hq2.cell e2 (by simp), hq2.cell e3 (by simp), hq2.cell e4 (by simp)⟩) (fun hNew => ?_); clear hK K; clear hHeld; have hHeld := hNew; clear hNew
  (try simp only [Act.put, List.setIfInBounds_toArray, List.set_cons_zero, List.set_cons_succ, List.getElem_toArray, List.getElem_cons_succ, List.getElem_cons_zero])
  (refine wpAnyH_take (i := 9) (oi := _) (v := _) rfl (by decide +kernel) (by decide +kernel) (by decide +kernel) (fun _ _ _ h => h) (Or.inl ⟨by rfl, by (intro w hSw; (try dsimp only at hSw); go_simp; try with_reducible rfl)⟩) (by assumption) ?_; (try simp only [Act.put, List.setIfInBounds_toArray, List.set_cons_zero, List.set_cons_succ, List.getElem_toArray, List.getElem_cons_succ, List.getElem_cons_zero]))
  (refine wpAnyH_take (i := 10) (oi := _) (v := _) rfl (by decide +kernel) (by decide +kernel) (by decide +kernel) (fun _ _ _ h => h) (Or.inl ⟨by rfl, by (intro w hSw; (try dsimp only at hSw); go_simp; try with_reducible rfl)⟩) (by assumption) ?_; (try simp only [Act.put, List.setIfInBounds_toArray, List.set_cons_zero, List.set_cons_succ, List.getElem_toArray, List.getElem_cons_succ, List.getElem_cons_zero]))
  refine wpAnyH_done (by decide +kernel) ?_ _
  refine NoPanic.normal ?_; (try simp only [Exit.then])
  clear hHeld
  obtain ⟨w5, hw5, hb5, hblk⟩ : ∃ w5, w4.alloc (.cells #[.pointer (some ⟨c, 0, none⟩), .complex .f64 gr.1 gr.2, .slice A2 n k2, .bool f, .bool cl, .bool m, .int .u64 0] 117) = w5 ∧ But [] w4 w5 ∧ w5.heap[w4.heap.size]? = some (.cells #[.pointer (some ⟨c, 0, none⟩), .complex .f64 gr.1 gr.2, .slice A2 n k2, .bool f, .bool cl, .bool m, .int .u64 0] 117 (0, 0)) := ⟨_, rfl, (But.refl _ _).alloc _, heap_alloc_new _ _⟩
  rw [hw5]
  clear hw5
  go_wp2_with fail
  go_ret2
  have s4 := hb4.size
  have hp2' : wb.heap.size ≤ p2 := hp2
  have sq := hq.size
  have s5 := hb5.size
  have sb := hbb.size
  have l1 := hcas.cl
  have l2 := hcas.pl
  have l3 := hcas.ql
  have l4 : w4.heap.size < w5.heap.size := (Array.getElem?_eq_some_iff.1 hblk).1
  obtain ⟨p3, r1, r2, r3, r4, r5⟩ : ∃ p3, RC w4 p3 0 (n * 5) Sc ∧ Hid (0 < n → A2 = some ⟨p3, 0, none⟩) ∧ w.heap.size ≤ p3 ∧ p3 < w4.heap.size ∧ c ≠ p3 := by
    rcases Nat.eq_zero_or_pos n with h0 | h0
    · exact ⟨p, fun j hj => by omega, fun h => by omega, by omega, by omega, hcas.cp⟩
    · obtain ⟨_, h1, _⟩ := hrc2 0 (by omega)
      exact ⟨p2, hrc2, HA2, by omega, World.block_lt_of_cell? _ _ h1, by omega⟩
  refine ⟨w4.heap.size, c, p, q, p3, rfl, by omega, by omega, by omega, by omega, by omega, ⟨(hcas.keep hq (by simp) (by simp) (by simp)).keep hb5 (by simp) (by simp) (by simp), ⟨gr, A2, k2, hblk, hgw, HG.out, r2.out⟩, r1.keep hb5 (by simp), ⟨by omega, by omega, by omega, by omega, r5⟩, by omega⟩, (hbb.trans hq).trans hb5⟩
end Go.Proofs.Ytnmpofjegepmaaa
