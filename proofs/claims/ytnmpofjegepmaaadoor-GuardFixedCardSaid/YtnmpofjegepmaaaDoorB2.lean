/- guard.New where it refuses: too many sections, an infinite gain, a coefficient that is no number. -/
import Derived.Test.YtnmpofjegepmaaaDoorB1
import Derived.LoopTactic
import Derived.Outline
namespace Go.Proofs.YtnmpofjegepmaaaDoor
open Go.RowKit Go.Proofs.YtnmpofjegepmaaaDoor.Fl Go.Proofs.YtnmpofjegepmaaaDoor.Pt

theorem cnew_long (gr : C) (n fk : Nat) (A : Option Addr) (w : World) (hn : 16 < n) :
    Calls Tryd.prog 26 #[.agg #[.complex .f64 gr.1 gr.2, .slice A n fk]] w fun e w' => e = .returned (.tuple #[.pointer none, .int .i64 2]) ∧ But [] w w' := by
  have h16 : decide ((16 : Int) < n) = true := by simp; omega
  obtain ⟨w1, hw1, hb1, hc0, hc1⟩ : ∃ w1, w.alloc (.cells #[.complex .f64 gr.1 gr.2, .slice A n fk] 40) = w1 ∧ But [] w w1 ∧ w1.cell? ⟨w.heap.size, 0, none⟩ = some (.complex .f64 gr.1 gr.2) ∧ w1.cell? ⟨w.heap.size, 1, none⟩ = some (.slice A n fk) :=
    ⟨_, rfl, (But.refl _ _).alloc _, by simp [go_sem], by simp [go_sem]⟩
  go_enter Tryd.func26, Tryd.ntmps26
  go_wp2_with fail
  go_ret2
  exact ⟨rfl, hb1⟩
theorem cnew_gain (gr : C) (n fk : Nat) (A : Option Addr) (w : World) (hn : n ≤ 16) (hgw : wf gr) (hg : finB gr.1 gr.2 = false) :
    Calls Tryd.prog 26 #[.agg #[.complex .f64 gr.1 gr.2, .slice A n fk]] w fun e w' => e = .returned (.tuple #[.pointer none, .int .i64 5]) ∧ But [] w w' := by
  have h16 : decide ((16 : Int) < n) = false := by simp; omega
  obtain ⟨w1, hw1, hb1, hc0, hc1⟩ : ∃ w1, w.alloc (.cells #[.complex .f64 gr.1 gr.2, .slice A n fk] 40) = w1 ∧ But [] w w1 ∧ w1.cell? ⟨w.heap.size, 0, none⟩ = some (.complex .f64 gr.1 gr.2) ∧ w1.cell? ⟨w.heap.size, 1, none⟩ = some (.slice A n fk) :=
    ⟨_, rfl, (But.refl _ _).alloc _, by simp [go_sem], by simp [go_sem]⟩
  have l1 := hgw.1
  have l2 := hgw.2
  go_enter Tryd.func26, Tryd.ntmps26
  go_wp2_with (go_at_call 37; refine (finite_any _ _ (by assumption) (by assumption) _).mono ?_; rintro e w' ⟨rfl, rfl⟩)
  go_ret2
  exact ⟨rfl, hb1⟩
theorem finC_not {a x : C} (h : ccn a = x) (hx : finB x.1 x.2 = false) : finB a.1 a.2 = false := by
  subst h; unfold ccn at hx; rwa [finB_cn] at hx

set_option linter.unusedSimpArgs false in
set_option maxHeartbeats 4000000 in
set_option maxRecDepth 100000 in
theorem cnew_nan (gr : C) (n fb fo fk : Nat) (Sc : Nat → C) (w : World) (hgw : wf gr) (hfg : finB gr.1 gr.2 = true) (n16 : n ≤ 16) (h2n : 2 < n) (hs : RC w fb fo (n * 5) Sc) (hf : ∀ j, j < 13 → FinC (Sc j)) (hbad : finB (Sc 13).1 (Sc 13).2 = false) :
    Calls Tryd.prog 26 #[.agg #[.complex .f64 gr.1 gr.2, .slice (some ⟨fb, fo, none⟩) n fk]] w fun e w' => e = .returned (.tuple #[.pointer none, .int .i64 5]) ∧ But [] w w' := by
  have h16 : decide ((16 : Int) < n) = false := by simp; omega
  have hex : ∃ w1, w.alloc (.cells #[.complex .f64 gr.1 gr.2, .slice (some ⟨fb, fo, none⟩) n fk] 40) = w1 ∧ But [] w w1 ∧ w1.cell? ⟨w.heap.size, 0, none⟩ = some (.complex .f64 gr.1 gr.2) ∧ w1.cell? ⟨w.heap.size, 1, none⟩ = some (.slice (some ⟨fb, fo, none⟩) n fk) :=
    ⟨_, rfl, (But.refl _ _).alloc _, by simp [go_sem, World.cell?_alloc_past], by simp [go_sem, World.cell?_alloc_past]⟩
  obtain ⟨w1, hw1, hb1, hc0, hc1⟩ := hex
  have l1 := hgw.1
  have l2 := hgw.2
  have HBAD := Lib.hid hbad
  clear hbad
  go_enter Tryd.func26, Tryd.ntmps26
  go_wp2_with (go_at_call 37; refine (finite_any _ _ (by assumption) (by assumption) _).mono ?_; rintro e w' ⟨rfl, rfl⟩)
  clear hw1
  go_loopw [20] (fun i wr => ∃ k : Nat, k ≤ 2 ∧ i = .int .i64 k ∧ But [] w1 wr) (fun i _ => n - (intOf i).toNat)
  case atStart => exact ⟨0, Nat.zero_le _, rfl, But.refl _ _⟩
  case round =>
    obtain ⟨k, hk, rfl, hbut⟩ := hrel
    have hlt : k < n := by omega
    obtain ⟨s0, s1, s2, s3, s4, ⟨a0, a1, a2, a3, a4⟩, ⟨⟨w00, w01⟩, ⟨w10, w11⟩, ⟨w20, w21⟩, ⟨w30, w31⟩, ⟨w40, w41⟩⟩, HS⟩ := (hs.keep (hb1.trans hbut) (by simp)).fiveO k hlt
    have hex : ∃ w2, wr.alloc (.cells #[.complex .f64 s0.1 s0.2, .complex .f64 s1.1 s1.2, .complex .f64 s2.1 s2.2, .complex .f64 s3.1 s3.2, .complex .f64 s4.1 s4.2] 52) = w2 ∧ But [] wr w2 ∧
        w2.cell? ⟨wr.heap.size, 0, none⟩ = some (.complex .f64 s0.1 s0.2) ∧ w2.cell? ⟨wr.heap.size, 1, none⟩ = some (.complex .f64 s1.1 s1.2) ∧ w2.cell? ⟨wr.heap.size, 2, none⟩ = some (.complex .f64 s2.1 s2.2) ∧ w2.cell? ⟨wr.heap.size, 3, none⟩ = some (.complex .f64 s3.1 s3.2) ∧ w2.cell? ⟨wr.heap.size, 4, none⟩ = some (.complex .f64 s4.1 s4.2) :=
      ⟨_, rfl, (But.refl _ _).alloc _, by simp [go_sem, World.cell?_alloc_past], by simp [go_sem, World.cell?_alloc_past], by simp [go_sem, World.cell?_alloc_past], by simp [go_sem, World.cell?_alloc_past], by simp [go_sem, World.cell?_alloc_past]⟩
    obtain ⟨w2, hw2, hb2, d0, d1, d2, d3, d4⟩ := hex
    have HB2 := hbut.trans hb2
    have HB3 := hb1.trans HB2
    have i0 : ∀ W, (Instr.index 79 (.agg #[.complex .f64 s0.1 s0.2, .complex .f64 s1.1 s1.2, .complex .f64 s2.1 s2.2, .complex .f64 s3.1 s3.2, .complex .f64 s4.1 s4.2]) (.int .i64 0)).run Tryd.prog W = .ok (.complex .f64 s0.1 s0.2) W := fun _ => by kernel_rfl
    have i1 : ∀ W, (Instr.index 79 (.agg #[.complex .f64 s0.1 s0.2, .complex .f64 s1.1 s1.2, .complex .f64 s2.1 s2.2, .complex .f64 s3.1 s3.2, .complex .f64 s4.1 s4.2]) (.int .i64 1)).run Tryd.prog W = .ok (.complex .f64 s1.1 s1.2) W := fun _ => by kernel_rfl
    have i2 : ∀ W, (Instr.index 79 (.agg #[.complex .f64 s0.1 s0.2, .complex .f64 s1.1 s1.2, .complex .f64 s2.1 s2.2, .complex .f64 s3.1 s3.2, .complex .f64 s4.1 s4.2]) (.int .i64 2)).run Tryd.prog W = .ok (.complex .f64 s2.1 s2.2) W := fun _ => by kernel_rfl
    have i3 : ∀ W, (Instr.index 79 (.agg #[.complex .f64 s0.1 s0.2, .complex .f64 s1.1 s1.2, .complex .f64 s2.1 s2.2, .complex .f64 s3.1 s3.2, .complex .f64 s4.1 s4.2]) (.int .i64 3)).run Tryd.prog W = .ok (.complex .f64 s3.1 s3.2) W := fun _ => by kernel_rfl
    have i4 : ∀ W, (Instr.index 79 (.agg #[.complex .f64 s0.1 s0.2, .complex .f64 s1.1 s1.2, .complex .f64 s2.1 s2.2, .complex .f64 s3.1 s3.2, .complex .f64 s4.1 s4.2]) (.int .i64 4)).run Tryd.prog W = .ok (.complex .f64 s4.1 s4.2) W := fun _ => by kernel_rfl
    have q0 := finC_of HS.out.1 (hf _ (by omega))
    have q1 := finC_of HS.out.2.1 (hf _ (by omega))
    have q2 := finC_of HS.out.2.2.1 (hf _ (by omega))
    by_cases h2 : k < 2
    · have q3 := finC_of HS.out.2.2.2.1 (hf _ (by omega))
      have q4 := finC_of HS.out.2.2.2.2 (hf _ (by omega))
      have t1 : (k : Int) < n := by omega
      go_wp2_with fail
      clear hw2 a0 a1 a2 a3 a4 d0 d1 d2 d3 d4
      go_loop [35] (fun i => ∃ j : Nat, j ≤ 5 ∧ i = .int .i64 j) (fun i => 5 - (intOf i).toNat)
      case atStart => exact ⟨0, by omega, rfl⟩
      case round =>
        obtain ⟨j, hj, rfl⟩ := hrel
        have hjc : j = 0 ∨ j = 1 ∨ j = 2 ∨ j = 3 ∨ j = 4 ∨ j = 5 := by omega
        rcases hjc with rfl | rfl | rfl | rfl | rfl | rfl
        · go_wp2_with (go_at_call 37; refine (finite_any _ _ (by assumption) (by assumption) _).mono ?_; rintro e w' ⟨rfl, rfl⟩)
          go_round
          case rel => exact ⟨1, by omega, rfl⟩
          case measure => simp [intOf]
        · go_wp2_with (go_at_call 37; refine (finite_any _ _ (by assumption) (by assumption) _).mono ?_; rintro e w' ⟨rfl, rfl⟩)
          go_round
          case rel => exact ⟨2, by omega, rfl⟩
          case measure => simp [intOf]
        · go_wp2_with (go_at_call 37; refine (finite_any _ _ (by assumption) (by assumption) _).mono ?_; rintro e w' ⟨rfl, rfl⟩)
          go_round
          case rel => exact ⟨3, by omega, rfl⟩
          case measure => simp [intOf]
        · go_wp2_with (go_at_call 37; refine (finite_any _ _ (by assumption) (by assumption) _).mono ?_; rintro e w' ⟨rfl, rfl⟩)
          go_round
          case rel => exact ⟨4, by omega, rfl⟩
          case measure => simp [intOf]
        · go_wp2_with (go_at_call 37; refine (finite_any _ _ (by assumption) (by assumption) _).mono ?_; rintro e w' ⟨rfl, rfl⟩)
          go_round
          case rel => exact ⟨5, by omega, rfl⟩
          case measure => simp [intOf]
        · go_wp2_with fail
          exact ⟨⟨k + 1, by omega, by go_num, HB2⟩, by simp [intOf]; omega⟩
    · have hk2 : k = 2 := by omega
      have q3 := finC_not (HS.out.2.2.2.1.trans (by rw [hk2])) HBAD.out
      have t1 : (k : Int) < n := by omega
      clear hk2 h2
      go_wp2_with fail
      clear hw2 a0 a1 a2 a3 a4 d0 d1 d2 d3 d4
      go_loop [35] (fun i => ∃ j : Nat, j ≤ 3 ∧ i = .int .i64 j) (fun i => 5 - (intOf i).toNat)
      case atStart => exact ⟨0, by omega, rfl⟩
      case round =>
        obtain ⟨j, hj, rfl⟩ := hrel
        have hjc : j = 0 ∨ j = 1 ∨ j = 2 ∨ j = 3 := by omega
        rcases hjc with rfl | rfl | rfl | rfl
        · go_wp2_with (go_at_call 37; refine (finite_any _ _ (by assumption) (by assumption) _).mono ?_; rintro e w' ⟨rfl, rfl⟩)
          go_round
          case rel => exact ⟨1, by omega, rfl⟩
          case measure => simp [intOf]
        · go_wp2_with (go_at_call 37; refine (finite_any _ _ (by assumption) (by assumption) _).mono ?_; rintro e w' ⟨rfl, rfl⟩)
          go_round
          case rel => exact ⟨2, by omega, rfl⟩
          case measure => simp [intOf]
        · go_wp2_with (go_at_call 37; refine (finite_any _ _ (by assumption) (by assumption) _).mono ?_; rintro e w' ⟨rfl, rfl⟩)
          go_round
          case rel => exact ⟨3, by omega, rfl⟩
          case measure => simp [intOf]
        · go_wp2_with (go_at_call 37; refine (finite_any _ _ (by assumption) (by assumption) _).mono ?_; rintro e w' ⟨rfl, rfl⟩)
          go_ret2
          exact ⟨rfl, HB3⟩

theorem gnew_bad (x : C) (A : Option Addr) (n fk : Nat) (f cl m : Bool) (er : Int) (her : (er != 0) = true) (w : World) (h : ∀ w', But [] w w' → Calls Tryd.prog 26 #[.agg #[.complex .f64 x.1 x.2, .slice A n fk]] w' fun e w2 => e = .returned (.tuple #[.pointer none, .int .i64 er]) ∧ But [] w' w2) :
    Calls Tryd.prog 11 #[.agg #[.complex .f64 x.1 x.2, .slice A n fk], .agg #[.bool f, .bool cl, .bool m]] w fun e w' => e = .returned (.tuple #[.pointer none, .int .i64 er]) ∧ But [] w w' := by
  obtain ⟨w1, hw1, hb1, d0, d1⟩ : ∃ w1, (w.alloc (.cells #[.complex .f64 x.1 x.2, .slice A n fk] 40)).alloc (.cells #[.bool f, .bool cl, .bool m] 30) = w1 ∧ But [] w w1 ∧ w1.cell? ⟨w.heap.size, 0, none⟩ = some (.complex .f64 x.1 x.2) ∧ w1.cell? ⟨w.heap.size, 1, none⟩ = some (.slice A n fk) :=
    ⟨_, rfl, ((But.refl _ _).alloc _).alloc _, by simp [go_sem, World.cell?_alloc_past], by simp [go_sem, World.cell?_alloc_past]⟩
  go_enter Tryd.func11, Tryd.ntmps11
  go_wp2_with fail
  refine (h _ hb1).mono ?_
  rintro e wb ⟨rfl, hb2⟩
  go_wp2_with fail
  go_ret2
  exact ⟨rfl, hb1.trans hb2⟩
theorem gnil_run (l : Value) (w : World) : Calls Tryd.prog 13 #[.pointer none, l] w fun e w' => e = .returned (.slice none 0 0) ∧ But [] w w' := by
  go_enter Tryd.func13, Tryd.ntmps13
  go_wp2_with fail
  go_ret
  exact ⟨rfl, But.refl _ _⟩
theorem gnil_changed (w : World) : Calls Tryd.prog 15 #[.pointer none] w fun e w' => e = .returned (.int .u64 0) ∧ w' = w := by
  go_enter Tryd.func15, Tryd.ntmps15
  go_wp2_with fail
  go_ret
  exact ⟨rfl, rfl⟩
theorem gnil_states (w : World) : Calls Tryd.prog 16 #[.pointer none] w fun e w' => e = .returned (.slice none 0 0) ∧ w' = w := by
  go_enter Tryd.func16, Tryd.ntmps16
  go_wp2_with fail
  go_ret
  exact ⟨rfl, rfl⟩
end Go.Proofs.YtnmpofjegepmaaaDoor
