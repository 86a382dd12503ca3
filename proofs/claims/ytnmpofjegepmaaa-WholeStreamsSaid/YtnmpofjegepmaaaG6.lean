/- quaverref03.Same, SameAll; quaverref19.DocClean. -/
import Derived.Test.YtnmpofjegepmaaaG5
namespace Go.Proofs.Ytnmpofjegepmaaa
open Go.RowKit Go.Proofs.Ytnmpofjegepmaaa.Fl Go.Proofs.Ytnmpofjegepmaaa.Pt

theorem rsame_any (a b : Nat) (ha : a < 18446744073709551616) (hb : b < 18446744073709551616) (w : World) :
    Calls Try.prog 77 #[.float .f64 a, .float .f64 b] w fun e w' => e = .returned (.bool (eqv a b)) ∧ w' = w := by
  rcases eqv_ways a b ha hb with ⟨g0, R⟩ | ⟨g0, g1, R⟩ | ⟨g0, g1, g2, R⟩
  all_goals
    go_enter Try.func77, Try.ntmps77
    go_wp2
    go_ret
    exact ⟨rb R.out, rfl⟩

/-- quaverref03.Same on two complex numbers. -/
def eqvC (a b : C) : Bool := eqv a.1 b.1 && eqv a.2 b.2
theorem rSame_any (a b : C) (ha : wf a) (hb : wf b) (w : World) :
    Calls Try.prog 30 #[.complex .f64 a.1 a.2, .complex .f64 b.1 b.2] w fun e w' => e = .returned (.bool (eqvC a b)) ∧ w' = w := by
  obtain ⟨a1, a2⟩ := ha
  obtain ⟨b1, b2⟩ := hb
  cases h1 : eqv a.1 b.1
  all_goals
    go_enter Try.func30, Try.ntmps30
    go_wp2_with (go_at_call 77; refine (rsame_any _ _ (by assumption) (by assumption) _).mono ?_; rintro e w' ⟨rfl, rfl⟩; (try rw [h1]))
    go_ret
    exact ⟨rb (by simp [eqvC, h1]), rfl⟩
theorem eqv_cn {a b : Nat} (h : cn a = cn b) : eqv a b = true := by
  cases h1 : nan a <;> cases h2 : nan b
  · rw [cn_num h1, cn_num h2] at h; subst h; exact eqv_refl _
  · exact absurd (cn_num h1 ▸ h) (fun h => by have : nan (cn b) = true := by rw [cn_nan h2]; decide
                                              rw [← h, h1] at this; cases this)
  · exact absurd (cn_num h2 ▸ h) (fun h => by have : nan (cn a) = true := by rw [cn_nan h1]; decide
                                              rw [h, h2] at this; cases this)
  · exact eqv_nan h1 h2
theorem eqvC_of {a b : C} (h : ccn a = ccn b) : eqvC a b = true := by
  unfold ccn at h
  simp only [Prod.mk.injEq] at h
  unfold eqvC
  rw [eqv_cn h.1, eqv_cn h.2]; rfl
theorem eqvC_refl (a : C) : eqvC a a = true := eqvC_of rfl
theorem rSame_true (a b : C) (ha : wf a) (hb : wf b) (h : ccn a = ccn b) (w : World) :
    Calls Try.prog 30 #[.complex .f64 a.1 a.2, .complex .f64 b.1 b.2] w fun e w' => e = .returned (.bool true) ∧ w' = w := by
  have := rSame_any a b ha hb w
  rwa [eqvC_of h] at this

set_option maxHeartbeats 1000000 in
set_option maxRecDepth 100000 in
theorem rsall_any (A B : Option Addr) (ab ao bb bo n ka kb : Nat) (hn : n ≤ 9223372036854775807) (hA : n = 0 ∨ (0 < n ∧ A = some ⟨ab, ao, none⟩ ∧ B = some ⟨bb, bo, none⟩)) (xs : Nat → C) (w : World) (ha : RC w ab ao n xs) (hb : RC w bb bo n xs) :
    Calls Try.prog 74 #[.slice A n ka, .slice B n kb] w fun e w' => e = .returned (.bool true) ∧ But [] w w' := by
  rcases hA with rfl | ⟨hn0, rfl, rfl⟩
  · go_enter Try.func74, Try.ntmps74
    go_wp2_with fail
    refine wp_loop_rounds 1 ?_
    rw [rounds_succ]
    go_wp2_with fail
    go_ret
    exact ⟨rfl, But.refl _ _⟩
  · go_enter Try.func74, Try.ntmps74
    go_wp2_with fail
    go_loopw [13] (fun i wr => ∃ k : Nat, k ≤ n ∧ i = .int .i64 k ∧ But [] w wr) (fun i _ => n - (intOf i).toNat)
    case atStart => exact ⟨0, Nat.zero_le _, rfl, But.refl _ _⟩
    case round =>
      obtain ⟨k, hk, rfl, hbt⟩ := hrel
      by_cases hlt : k < n
      · obtain ⟨x, hx, wx, ex⟩ := ha.keep hbt (by simp) k hlt
        obtain ⟨y, hy, wy, ey⟩ := hb.keep hbt (by simp) k hlt
        unfold V at hx hy
        have HE := Lib.hid (ex.trans ey.symm)
        have t1 : (k : Int) < n := by omega
        clear ex ey
        go_wp2_with fail
        go_quiet ((go_at_call 30; exact Calls.quiet_of_same (rSame_true x y wx wy HE.out _)))
        go_wp2_with fail
        exact ⟨⟨k + 1, by omega, by go_num, hbt.drewN nq⟩, by simp [intOf]; omega⟩
      · go_wp2_with fail
        go_ret
        exact ⟨rfl, hbt⟩

/-- (*Guarded).Changed and States. -/
theorem gchanged_any (d c p q p2 n : Nat) (f cl m : Bool) (ch : Nat) (g : C) (Sc St : Nat → C) (w : World) (h : Grd w d c p q p2 n f cl m ch g Sc St) :
    Calls Try.prog 34 #[.pointer (some ⟨d, 0, none⟩)] w fun e w' => e = .returned (.int .u64 (ch : Int)) ∧ w' = w := by
  obtain ⟨gr, A2, k2, hb, hgw, hgc, hA2⟩ := h.blk
  have c6 : w.cell? ⟨d, 6, none⟩ = some (.int .u64 (ch : Int)) := by rw [cell_of_row w d 6 _ _ _ hb]; rfl
  clear hb hgc hA2 h
  go_enter Try.func34, Try.ntmps34
  go_wp2_with fail
  go_ret
  exact ⟨rfl, rfl⟩
theorem gstates_any (d c p q p2 n : Nat) (f cl m : Bool) (ch : Nat) (g : C) (Sc St : Nat → C) (w : World) (h : Grd w d c p q p2 n f cl m ch g Sc St) :
    Calls Try.prog 35 #[.pointer (some ⟨d, 0, none⟩)] w fun e w' => ∃ b k, e = .returned (.slice (some ⟨b, 0, none⟩) n k) ∧ n ≤ k ∧ w.heap.size ≤ b ∧ OC w' b 71 (n * 2) St ∧ But [] w w' := by
  obtain ⟨gr, A2, k2, hb, hgw, hgc, hA2⟩ := h.blk
  have hcas := h.cas
  have c0 : w.cell? ⟨d, 0, none⟩ = some (.pointer (some ⟨c, 0, none⟩)) := by rw [cell_of_row w d 0 _ _ _ hb]; rfl
  clear hb hgc hA2 h
  go_enter Try.func35, Try.ntmps35
  go_wp2_with fail
  refine (cstates_any c p q n g Sc St _ hcas).mono ?_
  rintro e w0 ⟨v, rfl, ⟨sB, sk, rfl, hsk, hsB, hocS⟩, hb0⟩
  go_wp2_with fail
  go_ret
  exact ⟨sB, sk, rfl, hsk, hsB, hocS, hb0⟩
end Go.Proofs.Ytnmpofjegepmaaa
