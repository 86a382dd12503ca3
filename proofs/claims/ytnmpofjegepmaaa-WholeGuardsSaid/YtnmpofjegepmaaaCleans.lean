/- GuardCleans: the walk. -/
import Derived.Test.YtnmpofjegepmaaaG9
namespace Go.Proofs.Ytnmpofjegepmaaa
open Go.RowKit Go.Proofs.Ytnmpofjegepmaaa.Fl Go.Proofs.Ytnmpofjegepmaaa.Pt

/-- What is clean stays. -/
theorem clF_twice (f c m : Bool) (b : Nat) : clF f c m (clF f c m b) = clF f c m b ∧ clB f c m (clF f c m b) = false := by
  have hs := cls_sgw b
  have hx : cls (9218868437227405311 + sgw b) = 2 := by unfold sgw; split <;> decide
  have h0 : cls 0 = 0 := by decide
  by_cases h4 : cls b = 4
  · cases m
    · have : clF f c false b = b := by unfold clF; simp [h4]
      rw [this]; unfold clB; simp [h4, this]
    · have : clF f c true b = 0 := by unfold clF; simp [h4]
      rw [this]; unfold clF clB; simp [h0]
  · by_cases h3 : cls b = 3
    · cases c
      · have : clF f false m b = b := by unfold clF; simp [h3]
        rw [this]; unfold clB; simp [h3, this]
      · have : clF f true m b = 9218868437227405311 + sgw b := by unfold clF; simp [h3]
        rw [this]; unfold clF clB; simp [hx]
    · by_cases h1 : cls b = 1
      · cases f
        · have : clF false c m b = b := by unfold clF; simp [h1]
          rw [this]; unfold clB; simp [h1, this]
        · have : clF true c m b = sgw b := by unfold clF; simp [h1]
          rw [this]; unfold clF clB; simp [hs]
      · have : clF f c m b = b := by unfold clF; simp [h4, h3, h1]
        rw [this]; unfold clB; simp [h4, h3, h1, this]
theorem clN_twice (f c m : Bool) (a b : Nat) : clN f c m (clF f c m a, clF f c m b) = 0 := by unfold clN; simp [(clF_twice f c m _).2]

theorem uN {y : Int} (h1 : 0 ≤ y) (h2 : y < 18446744073709551616) : ∃ n : Nat, y = n ∧ n < 18446744073709551616 := ⟨y.toNat, by omega, by omega⟩

set_option linter.unusedSimpArgs false in
set_option maxHeartbeats 4000000 in
set_option maxRecDepth 100000 in
theorem cleans_any (f c m : Bool) (x y : Int) (hx : 0 ≤ x) (hx2 : x < 18446744073709551616) (hy : 0 ≤ y) (hy2 : y < 18446744073709551616) (w : World) :
    Calls Try.prog 5 #[.agg #[.bool f, .bool c, .bool m], .int .u64 x, .int .u64 y] w fun e w' => e = .returned (.bool true) ∧ But [] w w' := by
  obtain ⟨a, rfl, ha⟩ := uN hx hx2
  obtain ⟨b, rfl, hb⟩ := uN hy hy2
  clear hx hx2 hy hy2
  obtain ⟨w1, hw1, hb1, d0, d1, d2⟩ : ∃ w1, w.alloc (.cells #[.bool f, .bool c, .bool m] 57) = w1 ∧ But [] w w1 ∧ w1.cell? ⟨w.heap.size, 0, none⟩ = some (.bool f) ∧ w1.cell? ⟨w.heap.size, 1, none⟩ = some (.bool c) ∧ w1.cell? ⟨w.heap.size, 2, none⟩ = some (.bool m) :=
    ⟨_, rfl, (But.refl _ _).alloc _, by simp [go_sem], by simp [go_sem], by simp [go_sem]⟩
  go_enter Try.func5, Try.ntmps5
  go_wp2_with fail
  refine (awake19_any _).mono ?_
  rintro e w2 ⟨rfl, hb2⟩
  replace d0 := hb2.cell d0 (by simp)
  replace d1 := hb2.cell d1 (by simp)
  replace d2 := hb2.cell d2 (by simp)
  go_wp2_with fail
  refine (cleanc_any f c m a b ha hb _).mono ?_
  rintro e w3 ⟨rfl, hb3⟩
  replace d0 := hb3.cell d0 (by simp)
  replace d1 := hb3.cell d1 (by simp)
  replace d2 := hb3.cell d2 (by simp)
  go_wp2_with fail
  refine (rdoc_any f c m a b ha hb _).mono ?_
  rintro e w4 ⟨rfl, hb4⟩
  replace d0 := hb4.cell d0 (by simp)
  replace d1 := hb4.cell d1 (by simp)
  replace d2 := hb4.cell d2 (by simp)
  go_wp2_with fail
  refine (rSame_true (clF f c m a, clF f c m b) (clF f c m a, clF f c m b) ⟨clF_lt ha, clF_lt hb⟩ ⟨clF_lt ha, clF_lt hb⟩ rfl _).mono ?_
  rintro e w5 ⟨rfl, rfl⟩
  go_wp2_with fail
  have hN := clN_twice f c m a b
  have h2a := (clF_twice f c m a).1
  have h2b := (clF_twice f c m b).1
  refine (cleanc_any f c m (clF f c m a) (clF f c m b) (clF_lt ha) (clF_lt hb) _).mono ?_
  rintro e w6 ⟨rfl, hb6⟩
  rw [hN, h2a, h2b]
  go_wp2_with fail
  refine (rSame_true (clF f c m a, clF f c m b) (clF f c m a, clF f c m b) ⟨clF_lt ha, clF_lt hb⟩ ⟨clF_lt ha, clF_lt hb⟩ rfl _).mono ?_
  rintro e w7 ⟨rfl, rfl⟩
  go_wp2_with fail
  go_ret
  exact ⟨rfl, (((hb1.trans hb2).trans hb3).trans hb4).trans hb6⟩
end Go.Proofs.Ytnmpofjegepmaaa
