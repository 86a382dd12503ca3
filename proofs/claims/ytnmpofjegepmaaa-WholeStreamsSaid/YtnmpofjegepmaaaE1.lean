/- Contracts of layer top: same, alike, lists, states. -/
import Derived.Test.YtnmpofjegepmaaaD1
import Derived.LoopTactic
import Derived.Deep.QuietTactic
import Derived.BigQuiet
import Derived.Outline
namespace Go.Proofs.Ytnmpofjegepmaaa
open Go.RowKit Go.Proofs.Ytnmpofjegepmaaa.Fl Go.Proofs.Ytnmpofjegepmaaa.Pt

/-- Equal up to NaN. -/
def eqN (a b : Nat) : Bool := decide (cn a = cn b)
theorem eqN_ways (a b : Nat) (ha : a < 18446744073709551616) (hb : b < 18446744073709551616) :
    ((Go.FloatKind.f64.format.order a a != some Ordering.eq) = true ∧ (Go.FloatKind.f64.format.order b b != some Ordering.eq) = nan b ∧ Hid (nan b = eqN a b)) ∨
    ((Go.FloatKind.f64.format.order a a != some Ordering.eq) = false ∧ (Go.FloatKind.f64.format.order b b != some Ordering.eq) = true ∧ Hid (false = eqN a b)) ∨
    ((Go.FloatKind.f64.format.order a a != some Ordering.eq) = false ∧ (Go.FloatKind.f64.format.order b b != some Ordering.eq) = false ∧ ((a : Int) == (b : Int)) = eqN a b) := by
  unfold eqN
  rw [ne_self ha, ne_self hb]
  cases h1 : nan a <;> cases h2 : nan b
  · refine .inr (.inr ⟨rfl, rfl, ?_⟩)
    rw [cn_num h1, cn_num h2]
    by_cases h : a = b
    · rw [bt (by omega)]; simp [h]
    · rw [bf (by omega)]; simp [h]
  · refine .inr (.inl ⟨rfl, rfl, ?_⟩)
    have h3 : a ≠ QN := fun e => by rw [e, nan_QN] at h1; cases h1
    rw [cn_num h1, cn_nan h2]
    exact (by simp [h3] : false = decide (a = QN))
  · refine .inl ⟨rfl, rfl, ?_⟩
    have h3 : QN ≠ b := fun e => by rw [← e, nan_QN] at h2; cases h2
    rw [cn_num h2, cn_nan h1]
    exact (by simp [h3] : false = decide (QN = b))
  · refine .inl ⟨rfl, rfl, ?_⟩
    rw [cn_nan h2, cn_nan h1]
    exact (by simp : true = decide (QN = QN))

theorem tsame_any (a b : Nat) (ha : a < 18446744073709551616) (hb : b < 18446744073709551616) (w : World) :
    Calls Try.prog 80 #[.float .f64 a, .float .f64 b] w fun e w' => e = .returned (.bool (eqN a b)) ∧ w = w' := by
  rcases eqN_ways a b ha hb with ⟨g0, g1, R⟩ | ⟨g0, g1, R⟩ | ⟨g0, g1, g2⟩
  · go_enter Try.func80, Try.ntmps80
    go_wp2
    go_ret
    exact ⟨rb R.out, rfl⟩
  · go_enter Try.func80, Try.ntmps80
    go_wp2
    go_ret
    exact ⟨rb R.out, rfl⟩
  · go_enter Try.func80, Try.ntmps80
    go_wp2
    go_ret
    exact ⟨rfl, rfl⟩

/-- Equal up to NaN, part by part. -/
def eqC (a b : C) : Bool := eqN a.1 b.1 && eqN a.2 b.2
theorem eqC_of {a b : C} (h : ccn a = ccn b) : eqC a b = true := by
  unfold eqC eqN
  unfold ccn at h
  simp only [Prod.mk.injEq] at h
  simp [h.1, h.2]
theorem eqC_iff (a b : C) : eqC a b = decide (ccn a = ccn b) := by
  unfold eqC eqN ccn
  rw [Bool.eq_iff_iff]; simp

theorem alike_any (a b : C) (ha : wf a) (hb : wf b) (w : World) :
    Calls Try.prog 36 #[.complex .f64 a.1 a.2, .complex .f64 b.1 b.2] w fun e w' => e = .returned (.bool (eqC a b)) ∧ w = w' := by
  obtain ⟨a1, a2⟩ := ha
  obtain ⟨b1, b2⟩ := hb
  unfold eqC
  cases h : eqN a.1 b.1
  all_goals
    go_enter Try.func36, Try.ntmps36
    go_wp2_with (go_at_call 80; refine (tsame_any _ _ (by assumption) (by assumption) _).mono ?_; rintro e w' ⟨rfl, rfl⟩)
    go_ret
    exact ⟨rfl, rfl⟩

theorem alike_true (a b : C) (ha : wf a) (hb : wf b) (h : ccn a = ccn b) (w : World) :
    Calls Try.prog 36 #[.complex .f64 a.1 a.2, .complex .f64 b.1 b.2] w fun e w' => e = .returned (.bool true) ∧ w = w' := by
  have := alike_any a b ha hb w
  rwa [eqC_of h] at this

set_option maxHeartbeats 1000000 in
set_option maxRecDepth 100000 in
theorem lists_any (A B : Option Addr) (ab ao bb bo n ka kb : Nat) (hn : n ≤ 9223372036854775807) (hA : n = 0 ∨ (0 < n ∧ A = some ⟨ab, ao, none⟩ ∧ B = some ⟨bb, bo, none⟩)) (xs : Nat → C) (w : World) (ha : RC w ab ao n xs) (hb : RC w bb bo n xs) :
    Calls Try.prog 23 #[.slice A n ka, .slice B n kb] w fun e w' => e = .returned (.bool true) ∧ But [] w w' := by
  rcases hA with rfl | ⟨hn0, rfl, rfl⟩
  · go_enter Try.func23, Try.ntmps23
    go_wp2_with fail
    refine wp_loop_rounds 1 ?_
    rw [rounds_succ]
    go_wp2_with fail
    go_ret
    exact ⟨rfl, But.refl _ _⟩
  · go_enter Try.func23, Try.ntmps23
    go_wp2_with fail
    go_loopw [5] (fun i wr => ∃ k : Nat, k ≤ n ∧ i = .int .i64 k ∧ But [] w wr) (fun i _ => n - (intOf i).toNat)
    case atStart => exact ⟨0, Nat.zero_le _, rfl, But.refl _ _⟩
    case round =>
      obtain ⟨k, hk, rfl, hbt⟩ := hrel
      by_cases hlt : k < n
      · obtain ⟨x, hx, wx, ex⟩ := ha.keep hbt (by simp) k hlt
        obtain ⟨y, hy, wy, ey⟩ := hb.keep hbt (by simp) k hlt
        unfold V at hx hy
        have HE := Lib.hid (ex.trans ey.symm)
        have t1 : (k : Int) < n := by omega
        clear ex ey
        go_wp2_with fail
        go_quiet ((go_at_call 36; exact Calls.quiet_of_same ((alike_true x y wx wy HE.out _).mono fun e w' ⟨h1, h2⟩ => ⟨h1, h2.symm⟩)))
        go_wp2_with fail
        exact ⟨⟨k + 1, by omega, by go_num, hbt.drewN nq⟩, by simp [intOf]; omega⟩
      · go_wp2_with fail
        go_ret
        exact ⟨rfl, hbt⟩

theorem alike_H (a b : C) (ha : wf a) (hb : wf b) (h : Hid (ccn a = ccn b)) (w : World) :
    Calls Try.prog 36 #[.complex .f64 a.1 a.2, .complex .f64 b.1 b.2] w fun e w' => e = .returned (.bool true) ∧ w' = w :=
  (alike_true a b ha hb h.out w).mono fun _ _ ⟨h1, h2⟩ => ⟨h1, h2.symm⟩

theorem RC.twoO {w : World} {b o n : Nat} {xs : Nat → C} (h : RC w b o (n * 2) xs) (k : Nat) (hk : k < n) : ∃ s0 s1 : C,
    (w.cell? ⟨b, o + k * 2, none⟩ = some (.complex .f64 s0.1 s0.2) ∧ w.cell? ⟨b, o + k * 2 + 1, none⟩ = some (.complex .f64 s1.1 s1.2)) ∧ (wf s0 ∧ wf s1) ∧ Hid (ccn s0 = xs (k * 2) ∧ ccn s1 = xs (k * 2 + 1)) := by
  obtain ⟨s0, a0, c0, b0⟩ := h (k * 2) (by omega)
  obtain ⟨s1, a1, c1, b1⟩ := h (k * 2 + 1) (by omega)
  exact ⟨s0, s1, ⟨a0, a1⟩, ⟨c0, c1⟩, ⟨b0, b1⟩⟩

set_option maxHeartbeats 1000000 in
set_option maxRecDepth 100000 in
theorem tstates_any (A B : Option Addr) (ab ao bb bo n ka kb : Nat) (hn : n ≤ 9223372036854775807) (hA : n = 0 ∨ (0 < n ∧ A = some ⟨ab, ao, none⟩ ∧ B = some ⟨bb, bo, none⟩)) (xs : Nat → C) (w : World) (ha : RC w ab ao (n * 2) xs) (hb : RC w bb bo (n * 2) xs) :
    Calls Try.prog 24 #[.slice A n ka, .slice B n kb] w fun e w' => e = .returned (.bool true) ∧ But [] w w' := by
  rcases hA with rfl | ⟨hn0, rfl, rfl⟩
  · go_enter Try.func24, Try.ntmps24
    go_wp2_with fail
    refine wp_loop_rounds 1 ?_
    rw [rounds_succ]
    go_wp2_with fail
    go_ret
    exact ⟨rfl, But.refl _ _⟩
  · go_enter Try.func24, Try.ntmps24
    go_wp2_with fail
    go_loopw [5] (fun i wr => ∃ k : Nat, k ≤ n ∧ i = .int .i64 k ∧ But [] w wr) (fun i _ => n - (intOf i).toNat)
    case atStart => exact ⟨0, Nat.zero_le _, rfl, But.refl _ _⟩
    case round =>
      obtain ⟨k, hk, rfl, hbt⟩ := hrel
      by_cases hlt : k < n
      · obtain ⟨x0, x1, ⟨hx0, hx1⟩, ⟨wx0, wx1⟩, HX⟩ := (ha.keep hbt (by simp)).twoO k hlt
        obtain ⟨y0, y1, ⟨hy0, hy1⟩, ⟨wy0, wy1⟩, HY⟩ := (hb.keep hbt (by simp)).twoO k hlt
        have t1 : (k : Int) < n := by omega
        have H0 : Hid (ccn x0 = ccn y0) := HX.out.1.trans HY.out.1.symm
        have H1 : Hid (ccn x1 = ccn y1) := HX.out.2.trans HY.out.2.symm
        go_wp2_with fail
        go_quiet ((go_at_call 36; exact Calls.quiet_of_same (alike_H _ _ (by assumption) (by assumption) (by assumption) _)))
        go_wp2_with fail
        exact ⟨⟨k + 1, by omega, by go_num, hbt.drewN nq⟩, by simp [intOf]; omega⟩
      · go_wp2_with fail
        go_ret
        exact ⟨rfl, hbt⟩
end Go.Proofs.Ytnmpofjegepmaaa
