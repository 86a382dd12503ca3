/- cascade.New. -/
import Derived.Test.YtnmpofjegepmaaaC6
import Derived.LoopTactic
import Derived.Outline
namespace Go.Proofs.Ytnmpofjegepmaaa
open Go.RowKit Go.Proofs.Ytnmpofjegepmaaa.Fl

/-- Both parts are numbers. -/
def FinC (x : C) : Prop := finB x.1 x.2 = true
theorem finB_cn (a b : Nat) : finB (cn a) (cn b) = finB a b := by
  have h : ∀ c, decide (cn c % SG < INF) = decide (c % SG < INF) := by
    intro c
    cases h : nan c
    · rw [cn_num h]
    · rw [cn_nan h]
      have : INF < c % SG := by unfold nan at h; simpa using h
      have h2 : ¬ c % SG < INF := by omega
      simp only [h2, decide_false]; decide
  rw [finB_eq, finB_eq, h, h]
theorem finC_of {a x : C} (h : ccn a = x) (hx : FinC x) : finB a.1 a.2 = true := by
  subst h; unfold FinC ccn at hx; rwa [finB_cn] at hx

theorem RC.fiveO {w : World} {b o n : Nat} {xs : Nat → C} (h : RC w b o (n * 5) xs) (k : Nat) (hk : k < n) : ∃ s0 s1 s2 s3 s4 : C,
    (w.cell? ⟨b, o + k * 5, none⟩ = some (.complex .f64 s0.1 s0.2) ∧ w.cell? ⟨b, o + k * 5 + 1, none⟩ = some (.complex .f64 s1.1 s1.2) ∧ w.cell? ⟨b, o + k * 5 + 2, none⟩ = some (.complex .f64 s2.1 s2.2) ∧
      w.cell? ⟨b, o + k * 5 + 3, none⟩ = some (.complex .f64 s3.1 s3.2) ∧ w.cell? ⟨b, o + k * 5 + 4, none⟩ = some (.complex .f64 s4.1 s4.2)) ∧ (wf s0 ∧ wf s1 ∧ wf s2 ∧ wf s3 ∧ wf s4) ∧
    Hid (ccn s0 = xs (k * 5) ∧ ccn s1 = xs (k * 5 + 1) ∧ ccn s2 = xs (k * 5 + 2) ∧ ccn s3 = xs (k * 5 + 3) ∧ ccn s4 = xs (k * 5 + 4)) := by
  obtain ⟨s0, a0, c0, b0⟩ := h (k * 5) (by omega)
  obtain ⟨s1, a1, c1, b1⟩ := h (k * 5 + 1) (by omega)
  obtain ⟨s2, a2, c2, b2⟩ := h (k * 5 + 2) (by omega)
  obtain ⟨s3, a3, c3, b3⟩ := h (k * 5 + 3) (by omega)
  obtain ⟨s4, a4, c4, b4⟩ := h (k * 5 + 4) (by omega)
  exact ⟨s0, s1, s2, s3, s4, ⟨a0, a1, a2, a3, a4⟩, ⟨c0, c1, c2, c3, c4⟩, ⟨b0, b1, b2, b3, b4⟩⟩

set_option linter.unusedSimpArgs false in
set_option maxHeartbeats 4000000 in
set_option maxRecDepth 100000 in
theorem cnew_any (gr g : C) (n fb fo fk : Nat) (A : Option Addr) (Sc : Nat → C) (w : World) (hg : ccn gr = g) (hgw : wf gr) (hgf : FinC g) (n16 : n ≤ 16) (hA : 0 < n → A = some ⟨fb, fo, none⟩) (hs : RC w fb fo (n * 5) Sc) (hf : ∀ j, j < n * 5 → FinC (Sc j)) :
    Calls Try.prog 16 #[.agg #[.complex .f64 gr.1 gr.2, .slice A n fk]] w fun e w' => ∃ c p q, e = .returned (.tuple #[.pointer (some ⟨c, 0, none⟩), .int .i64 0]) ∧ w.heap.size ≤ c ∧ w.heap.size ≤ p ∧ w.heap.size ≤ q ∧ Cas w' c p q n g Sc (fun _ => Z0) ∧ But [] w w' := by
  have hfg := finC_of hg hgf
  have h16 : decide ((16 : Int) < n) = false := by simp; omega
  have hex : ∃ w1, w.alloc (.cells #[.complex .f64 gr.1 gr.2, .slice A n fk] 28) = w1 ∧ But [] w w1 ∧ w1.cell? ⟨w.heap.size, 0, none⟩ = some (.complex .f64 gr.1 gr.2) ∧ w1.cell? ⟨w.heap.size, 1, none⟩ = some (.slice A n fk) :=
    ⟨_, rfl, (But.refl _ _).alloc _, by simp [go_sem, World.cell?_alloc_past], by simp [go_sem, World.cell?_alloc_past]⟩
  obtain ⟨w1, hw1, hb1, hc0, hc1⟩ := hex
  have HA := Lib.hid hA
  have HG := Lib.hid hg
  clear hA hg
  have l1 := hgw.1
  have l2 := hgw.2
  go_enter Try.func16, Try.ntmps16
  go_wp2_with (go_at_call 70; refine (finite_any _ _ (by assumption) (by assumption) _).mono ?_; rintro e w' ⟨rfl, rfl⟩)
  clear hw1
  go_loopw [20] (fun i wr => ∃ k : Nat, k ≤ n ∧ i = .int .i64 k ∧ But [] w1 wr) (fun i _ => n - (intOf i).toNat)
  case atStart => exact ⟨0, Nat.zero_le _, rfl, But.refl _ _⟩
  case round =>
    obtain ⟨k, hk, rfl, hbut⟩ := hrel
    by_cases hlt : k < n
    · obtain rfl := HA.out (by omega)
      clear HA
      obtain ⟨s0, s1, s2, s3, s4, ⟨a0, a1, a2, a3, a4⟩, ⟨⟨w00, w01⟩, ⟨w10, w11⟩, ⟨w20, w21⟩, ⟨w30, w31⟩, ⟨w40, w41⟩⟩, HS⟩ := (hs.keep (hb1.trans hbut) (by simp)).fiveO k hlt
      have q0 := finC_of HS.out.1 (hf _ (by omega))
      have q1 := finC_of HS.out.2.1 (hf _ (by omega))
      have q2 := finC_of HS.out.2.2.1 (hf _ (by omega))
      have q3 := finC_of HS.out.2.2.2.1 (hf _ (by omega))
      have q4 := finC_of HS.out.2.2.2.2 (hf _ (by omega))
      have hex : ∃ w2, wr.alloc (.cells #[.complex .f64 s0.1 s0.2, .complex .f64 s1.1 s1.2, .complex .f64 s2.1 s2.2, .complex .f64 s3.1 s3.2, .complex .f64 s4.1 s4.2] 33) = w2 ∧ But [] wr w2 ∧
          w2.cell? ⟨wr.heap.size, 0, none⟩ = some (.complex .f64 s0.1 s0.2) ∧ w2.cell? ⟨wr.heap.size, 1, none⟩ = some (.complex .f64 s1.1 s1.2) ∧ w2.cell? ⟨wr.heap.size, 2, none⟩ = some (.complex .f64 s2.1 s2.2) ∧ w2.cell? ⟨wr.heap.size, 3, none⟩ = some (.complex .f64 s3.1 s3.2) ∧ w2.cell? ⟨wr.heap.size, 4, none⟩ = some (.complex .f64 s4.1 s4.2) :=
        ⟨_, rfl, (But.refl _ _).alloc _, by simp [go_sem, World.cell?_alloc_past], by simp [go_sem, World.cell?_alloc_past], by simp [go_sem, World.cell?_alloc_past], by simp [go_sem, World.cell?_alloc_past], by simp [go_sem, World.cell?_alloc_past]⟩
      obtain ⟨w2, hw2, hb2, d0, d1, d2, d3, d4⟩ := hex
      have HB2 := hbut.trans hb2
      have i0 : ∀ W, (Instr.index 102 (.agg #[.complex .f64 s0.1 s0.2, .complex .f64 s1.1 s1.2, .complex .f64 s2.1 s2.2, .complex .f64 s3.1 s3.2, .complex .f64 s4.1 s4.2]) (.int .i64 0)).run Try.prog W = .ok (.complex .f64 s0.1 s0.2) W := fun _ => by kernel_rfl
      have i1 : ∀ W, (Instr.index 102 (.agg #[.complex .f64 s0.1 s0.2, .complex .f64 s1.1 s1.2, .complex .f64 s2.1 s2.2, .complex .f64 s3.1 s3.2, .complex .f64 s4.1 s4.2]) (.int .i64 1)).run Try.prog W = .ok (.complex .f64 s1.1 s1.2) W := fun _ => by kernel_rfl
      have i2 : ∀ W, (Instr.index 102 (.agg #[.complex .f64 s0.1 s0.2, .complex .f64 s1.1 s1.2, .complex .f64 s2.1 s2.2, .complex .f64 s3.1 s3.2, .complex .f64 s4.1 s4.2]) (.int .i64 2)).run Try.prog W = .ok (.complex .f64 s2.1 s2.2) W := fun _ => by kernel_rfl
      have i3 : ∀ W, (Instr.index 102 (.agg #[.complex .f64 s0.1 s0.2, .complex .f64 s1.1 s1.2, .complex .f64 s2.1 s2.2, .complex .f64 s3.1 s3.2, .complex .f64 s4.1 s4.2]) (.int .i64 3)).run Try.prog W = .ok (.complex .f64 s3.1 s3.2) W := fun _ => by kernel_rfl
      have i4 : ∀ W, (Instr.index 102 (.agg #[.complex .f64 s0.1 s0.2, .complex .f64 s1.1 s1.2, .complex .f64 s2.1 s2.2, .complex .f64 s3.1 s3.2, .complex .f64 s4.1 s4.2]) (.int .i64 4)).run Try.prog W = .ok (.complex .f64 s4.1 s4.2) W := fun _ => by kernel_rfl
      go_wp2_with fail
      clear hw2 a0 a1 a2 a3 a4 d0 d1 d2 d3 d4
      go_loop [35] (fun i => ∃ j : Nat, j ≤ 5 ∧ i = .int .i64 j) (fun i => 5 - (intOf i).toNat)
      case atStart => exact ⟨0, by omega, rfl⟩
      case round =>
        obtain ⟨j, hj, rfl⟩ := hrel
        have hjc : j = 0 ∨ j = 1 ∨ j = 2 ∨ j = 3 ∨ j = 4 ∨ j = 5 := by omega
        rcases hjc with rfl | rfl | rfl | rfl | rfl | rfl
        · go_wp2_with (go_at_call 70; refine (finite_any _ _ (by assumption) (by assumption) _).mono ?_; rintro e w' ⟨rfl, rfl⟩)
          go_round
          case rel => exact ⟨1, by omega, rfl⟩
          case measure => simp [intOf]
        · go_wp2_with (go_at_call 70; refine (finite_any _ _ (by assumption) (by assumption) _).mono ?_; rintro e w' ⟨rfl, rfl⟩)
          go_round
          case rel => exact ⟨2, by omega, rfl⟩
          case measure => simp [intOf]
        · go_wp2_with (go_at_call 70; refine (finite_any _ _ (by assumption) (by assumption) _).mono ?_; rintro e w' ⟨rfl, rfl⟩)
          go_round
          case rel => exact ⟨3, by omega, rfl⟩
          case measure => simp [intOf]
        · go_wp2_with (go_at_call 70; refine (finite_any _ _ (by assumption) (by assumption) _).mono ?_; rintro e w' ⟨rfl, rfl⟩)
          go_round
          case rel => exact ⟨4, by omega, rfl⟩
          case measure => simp [intOf]
        · go_wp2_with (go_at_call 70; refine (finite_any _ _ (by assumption) (by assumption) _).mono ?_; rintro e w' ⟨rfl, rfl⟩)
          go_round
          case rel => exact ⟨5, by omega, rfl⟩
          case measure => simp [intOf]
        · go_wp2_with fail
          exact ⟨⟨k + 1, by omega, by go_num, HB2⟩, by simp [intOf]; omega⟩
    · obtain rfl : n = k := by omega
      go_wp2_with fail
      refine wp_region_noPanic ?_
      refine wp_region_held_drew (S := fun w' => But [] w1 w' ∧ w'.cell? ⟨w.heap.size, 0, none⟩ = some (.complex .f64 gr.1 gr.2) ∧ w'.cell? ⟨w.heap.size, 1, none⟩ = some (.slice A n fk)) (by kernel_rfl) ?_ (fun hHeld => ?_)
      · (try dsimp only); exact ⟨hbut.drew, (hbut.drew).cell hc0 (by simp), (hbut.drew).cell hc1 (by simp)⟩
      (refine wpAnyH_take (i := 0) (oi := _) (v := _) rfl (by decide +kernel) (by decide +kernel) (by decide +kernel) (fun _ _ _ h => h) (Or.inl ⟨by rfl, by (intro w hSw; (try dsimp only at hSw); go_simp; try with_reducible rfl)⟩) (by assumption) ?_; (try simp only [Act.put, List.setIfInBounds_toArray, List.set_cons_zero, List.set_cons_succ, List.getElem_toArray, List.getElem_cons_succ, List.getElem_cons_zero]))
      (refine wpAnyH_take (i := 1) (oi := _) (v := _) rfl (by decide +kernel) (by decide +kernel) (by decide +kernel) (fun _ _ _ h => h) (Or.inl ⟨by rfl, by (intro w hSw; (try dsimp only at hSw); go_simp; try with_reducible rfl)⟩) (by assumption) ?_; (try simp only [Act.put, List.setIfInBounds_toArray, List.set_cons_zero, List.set_cons_succ, List.getElem_toArray, List.getElem_cons_succ, List.getElem_cons_zero]))
      (refine wpAnyH_take (i := 3) (oi := _) (v := _) rfl (by decide +kernel) (by decide +kernel) (by decide +kernel) (fun _ _ _ h => h) (Or.inl ⟨by rfl, by (intro w hSw; (try dsimp only at hSw); go_simp; try with_reducible rfl)⟩) (by assumption) ?_; (try simp only [Act.put, List.setIfInBounds_toArray, List.set_cons_zero, List.set_cons_succ, List.getElem_toArray, List.getElem_cons_succ, List.getElem_cons_zero]))
      (refine wpAnyH_take (i := 4) (oi := _) (v := _) rfl (by decide +kernel) (by decide +kernel) (by decide +kernel) (fun _ _ _ h => h) (Or.inl ⟨by rfl, by (intro w hSw; (try dsimp only at hSw); go_simp; try with_reducible rfl)⟩) (by assumption) ?_; (try simp only [Act.put, List.setIfInBounds_toArray, List.set_cons_zero, List.set_cons_succ, List.getElem_toArray, List.getElem_cons_succ, List.getElem_cons_zero]))
      refine wpAnyH_ready (rs := [2]) (by decide +kernel) (by simp) ?_
      refine AllReadyH.cons (o := _) rfl (fun K hK => ?_) AllReadyH.nil
      go_simp
      refine hK.out _ _ (by (try dsimp only); exact ⟨hHeld.1.alloc _, (hHeld.1.alloc _).cell hc0 (by simp), (hHeld.1.alloc _).cell hc1 (by simp)⟩) (fun hNew => ?_); clear hK K; clear hHeld; have hHeld := hNew; clear hNew
      (try simp only [Act.put, List.setIfInBounds_toArray, List.set_cons_zero, List.set_cons_succ, List.getElem_toArray, List.getElem_cons_succ, List.getElem_cons_zero])
      refine wpAnyH_ready (rs := [5]) (by decide +kernel) (by simp) ?_
      refine AllReadyH.cons (o := _) rfl (fun K hK => ?_) AllReadyH.nil
      refine step_append_rc _ rfl _ _ _ rfl wr.heap.size 33 _ 5 80 Try.underlying26 Try.info33 rfl (by omega) (.slice (some ⟨wr.heap.size, 0, none⟩) 0 0) 0 (fun _ => Z0) rfl (OR.empty wr 33 5 _) A fb fo n fk Sc rfl HA.out (hs.keep (hb1.trans hHeld.1) (by simp)) (by omega) (by omega) (by simp) ?_; intro v' w' hor hgr hob hnn; have hbg : But [] w1 w' := hHeld.1.grown hgr (fun g hg => by { simp [Value.ownBlock] at hg; have := hbut.size; exact .inr (by omega) }); obtain ⟨pb, pk, rfl, hpk, hpb, hoc⟩ := newRow_of (by simpa [cat_zero] using hor) (hnn (by simp)); clear hor hgr hob hnn
      refine hK.out _ _ (by (try dsimp only); exact ⟨hbg, hbg.cell hc0 (by simp), hbg.cell hc1 (by simp)⟩) (fun hNew => ?_); clear hK K; clear hHeld; have hHeld := hNew; clear hNew
      (try simp only [Act.put, List.setIfInBounds_toArray, List.set_cons_zero, List.set_cons_succ, List.getElem_toArray, List.getElem_cons_succ, List.getElem_cons_zero])
      (refine wpAnyH_take (i := 6) (oi := _) (v := _) rfl (by decide +kernel) (by decide +kernel) (by decide +kernel) (fun _ _ _ h => h) (Or.inl ⟨by rfl, by (intro w hSw; (try dsimp only at hSw); go_simp; try with_reducible rfl)⟩) (by assumption) ?_; (try simp only [Act.put, List.setIfInBounds_toArray, List.set_cons_zero, List.set_cons_succ, List.getElem_toArray, List.getElem_cons_succ, List.getElem_cons_zero]))
      refine wpAnyH_ready (rs := [7]) (by decide +kernel) (by simp) ?_
      refine AllReadyH.cons (o := _) rfl (fun K hK => ?_) AllReadyH.nil
      go_simp
      refine hK.out _ _ (by (try dsimp only); exact ⟨hHeld.1.alloc _, (hHeld.1.alloc _).cell hc0 (by simp), (hHeld.1.alloc _).cell hc1 (by simp)⟩) (fun hNew => ?_); clear hK K; clear hHeld; have hHeld := hNew; clear hNew
      (try simp only [Act.put, List.setIfInBounds_toArray, List.set_cons_zero, List.set_cons_succ, List.getElem_toArray, List.getElem_cons_succ, List.getElem_cons_zero])
      (refine wpAnyH_take (i := 8) (oi := _) (v := _) rfl (by decide +kernel) (by decide +kernel) (by decide +kernel) (fun _ _ _ h => h) (Or.inl ⟨by rfl, by (intro w hSw; (try dsimp only at hSw); go_simp; try with_reducible rfl)⟩) (by assumption) ?_; (try simp only [Act.put, List.setIfInBounds_toArray, List.set_cons_zero, List.set_cons_succ, List.getElem_toArray, List.getElem_cons_succ, List.getElem_cons_zero]))
      refine wpAnyH_done (by decide +kernel) ?_ _
      refine NoPanic.normal ?_; (try simp only [Exit.then])
      have hwp : ∃ w3, w'.alloc (.cells #[.complex .f64 gr.1 gr.2, .slice (some ⟨pb, 0, none⟩) n pk, .slice none 0 0] 104) = w3 ∧ But [] w' w3 ∧ w3.heap[w'.heap.size]? = some (.cells #[V gr, .slice (some ⟨pb, 0, none⟩) n pk, .slice none 0 0] 104 (0, 0)) := ⟨_, rfl, (But.refl _ _).alloc _, heap_alloc_new _ _⟩
      obtain ⟨w3, hw3, hb3, hblk⟩ := hwp
      rw [hw3]
      clear hHeld hw3
      go_wp2_with (go_at_call 25; refine (crest_raw w'.heap.size pb n pk gr _ _ n16 hblk).mono ?_; rintro e w4 ⟨rfl, hb4, hblk4, hoc4⟩)
      go_ret2
      have s1 := hb1.size
      have s2 := hbut.size
      have s3 := hb3.size
      have s5 := hbg.size
      have hoc' := hoc.keep hb3 (by simp)
      have hcl : w'.heap.size < w3.heap.size := (Array.getElem?_eq_some_iff.1 hblk).1
      have hpl := hoc.lt
      refine ⟨_, pb, w3.heap.size, rfl, by omega, by omega, by omega, ⟨by omega, by omega, by omega, n16, Nat.lt_of_lt_of_le hoc'.lt hb4.size, ⟨gr, pk, n, hblk4, hgw, HG.out, hpk, Nat.le_refl _⟩, (hoc'.keep hb4 (by simp; omega)).rc, hoc4⟩, ?_⟩
      exact ((hb1.trans hbg).trans hb3).then hb4 (fun i hi hm => by simp at hm; omega)
end Go.Proofs.Ytnmpofjegepmaaa
