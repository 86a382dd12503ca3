/- Contracts of layer top: float, raw. -/
import Derived.Test.YtnmpofjegepmaaaE1
import Derived.Test.YtnmpofjegepmaaaD2
import Derived.IntWalk
namespace Go.Proofs.Ytnmpofjegepmaaa
open Go.RowKit Go.Proofs.Ytnmpofjegepmaaa.Fl

theorem tfloat_any (n : Int) (w : World) : Calls Try.prog 69 #[.int .u64 n] w fun e w' => e = .returned (.float .f64 n.toNat) ∧ w' = w := by
  go_enter Try.func69, Try.ntmps69
  go_wp2
  go_ret
  exact ⟨rfl, rfl⟩

/-- A row of uint64. -/
def RU (w : World) (b o m : Nat) : Prop := ∀ j, j < m → ∃ x : Int, w.cell? ⟨b, o + j, none⟩ = some (.int .u64 x) ∧ 0 ≤ x ∧ x < 18446744073709551616
theorem RU.keep {w w' : World} {b o m : Nat} {qs : List Nat} (h : RU w b o m) (k : But qs w w') (hb : b ∉ qs) : RU w' b o m := fun j hj => by
  obtain ⟨a, h1, h2⟩ := h j hj
  exact ⟨a, k.cell h1 hb, h2⟩

set_option linter.unusedSimpArgs false in
set_option maxHeartbeats 1000000 in
set_option maxRecDepth 100000 in
theorem raw_any (bb bo n kb : Nat) (B : Option Addr) (w : World) (hB : 0 < n → B = some ⟨bb, bo, none⟩) (hb : RU w bb bo n) (hn : n ≤ 17592186044416) :
    Calls Try.prog 15 #[.slice B n kb] w fun e w' => ∃ v xs, e = .returned v ∧ OR w' w.heap.size 25 1 v (n / 2) xs ∧ But [] w w' := by
  have HB := Lib.hid hB
  clear hB
  go_enter Try.func15, Try.ntmps15
  go_wp2_with fail
  go_loopw [3, 4] (fun v i wr => ∃ (k : Nat) (xs : Nat → C), k * 2 ≤ n ∧ i = .int .i64 ((k : Int) * 2) ∧ OR wr w.heap.size 25 1 v k xs ∧ But [] w wr) (fun _ i _ => n - (intOf i).toNat)
  case atStart => exact ⟨0, fun _ => Z0, by omega, rfl, OR.nil _ _ _ _ _, But.refl _ _⟩
  case round =>
    obtain ⟨k, xs, hk, rfl, hor, hbt⟩ := hrel
    by_cases hlt : k * 2 + 1 < n
    · obtain rfl := HB.out (by omega)
      clear HB
      have hbl : bb < w.heap.size := by
        obtain ⟨_, h, _⟩ := hb 0 (by omega)
        exact World.block_lt_of_cell? _ _ h
      obtain ⟨x, hx, lx, ux⟩ := hb.keep hbt (by simp) (k * 2) (by omega)
      obtain ⟨y, hy, ly, uy⟩ := hb.keep hbt (by simp) (k * 2 + 1) (by omega)
      have hwf : wf (x.toNat, y.toNat) := ⟨by simp only; omega, by simp only; omega⟩
      have t0 : (k : Int) * 2 + 1 < n := by omega
      have t1 : (k : Int) * 2 < n := by omega
      have t2 : IntKind.i64.wrap ((k : Int) * 2 + 1) = (k : Int) * 2 + 1 := IntWalk.i64_in _ (by omega)
      have t3 : ((k : Int) * 2 + 1).toNat = k * 2 + 1 := by omega
      have t5 : ((k : Int) * 2).toNat = k * 2 := by omega
      have t6 : (0 : Int) ≤ (k : Int) * 2 := by omega
      have t4 : (0 : Int) ≤ (k : Int) * 2 + 1 := by omega
      go_wp2_with fail
      refine wp_region_noPanic ?_
      refine wp_region_held_drew (S := fun w' => w'.cell? ⟨bb, bo + k * 2, none⟩ = some (.int .u64 x) ∧ w'.cell? ⟨bb, bo + (k * 2 + 1), none⟩ = some (.int .u64 y)) (by kernel_rfl) ?_ (fun hHeld => ?_)
      · (try dsimp only); exact ⟨hx, hy⟩
      (refine wpAnyH_take (i := 0) (oi := _) (v := _) rfl (by decide +kernel) (by decide +kernel) (by decide +kernel) (fun _ _ _ h => h) (Or.inl ⟨by rfl, by (intro w hSw; (try dsimp only at hSw); go_simp; try with_reducible rfl)⟩) (by assumption) ?_; (try simp only [Act.put, List.setIfInBounds_toArray, List.set_cons_zero, List.set_cons_succ, List.getElem_toArray, List.getElem_cons_succ, List.getElem_cons_zero]))
      (refine wpAnyH_take (i := 1) (oi := _) (v := _) rfl (by decide +kernel) (by decide +kernel) (by decide +kernel) (fun _ _ _ h => h) (Or.inl ⟨by rfl, by (intro w hSw; (try dsimp only at hSw); go_simp; try with_reducible rfl)⟩) (by assumption) ?_; (try simp only [Act.put, List.setIfInBounds_toArray, List.set_cons_zero, List.set_cons_succ, List.getElem_toArray, List.getElem_cons_succ, List.getElem_cons_zero]))
      (refine wpAnyH_take (i := 2) (oi := _) (v := _) rfl (by decide +kernel) (by decide +kernel) (by decide +kernel) (fun _ _ _ h => h) (Or.inl ⟨by rfl, by (intro w hSw; (try dsimp only at hSw); go_simp; try with_reducible rfl)⟩) (by assumption) ?_; (try simp only [Act.put, List.setIfInBounds_toArray, List.set_cons_zero, List.set_cons_succ, List.getElem_toArray, List.getElem_cons_succ, List.getElem_cons_zero]))
      (refine wpAnyH_take (i := 3) (oi := _) (v := _) rfl (by decide +kernel) (by decide +kernel) (by decide +kernel) (fun _ _ _ h => h) (Or.inl ⟨by rfl, by (intro w hSw; (try dsimp only at hSw); go_simp; try with_reducible rfl)⟩) (by assumption) ?_; (try simp only [Act.put, List.setIfInBounds_toArray, List.set_cons_zero, List.set_cons_succ, List.getElem_toArray, List.getElem_cons_succ, List.getElem_cons_zero]))
      (refine wpAnyH_take (i := 4) (oi := _) (v := _) rfl (by decide +kernel) (by decide +kernel) (by decide +kernel) (fun _ _ _ h => h) (Or.inl ⟨by rfl, by (intro w hSw; (try dsimp only at hSw); go_simp; try with_reducible rfl)⟩) (by assumption) ?_; (try simp only [Act.put, List.setIfInBounds_toArray, List.set_cons_zero, List.set_cons_succ, List.getElem_toArray, List.getElem_cons_succ, List.getElem_cons_zero]))
      (refine wpAnyH_take (i := 6) (oi := _) (v := _) rfl (by decide +kernel) (by decide +kernel) (by decide +kernel) (fun _ _ _ h => h) (Or.inl ⟨by rfl, by (intro w hSw; (try dsimp only at hSw); go_simp; try with_reducible rfl)⟩) (by assumption) ?_; (try simp only [Act.put, List.setIfInBounds_toArray, List.set_cons_zero, List.set_cons_succ, List.getElem_toArray, List.getElem_cons_succ, List.getElem_cons_zero]))
      (refine wpAnyH_take (i := 7) (oi := _) (v := _) rfl (by decide +kernel) (by decide +kernel) (by decide +kernel) (fun _ _ _ h => h) (Or.inl ⟨by rfl, by (intro w hSw; (try dsimp only at hSw); go_simp; try with_reducible rfl)⟩) (by assumption) ?_; (try simp only [Act.put, List.setIfInBounds_toArray, List.set_cons_zero, List.set_cons_succ, List.getElem_toArray, List.getElem_cons_succ, List.getElem_cons_zero]))
      (refine wpAnyH_take (i := 8) (oi := _) (v := _) rfl (by decide +kernel) (by decide +kernel) (by decide +kernel) (fun _ _ _ h => h) (Or.inl ⟨by rfl, by (intro w hSw; (try dsimp only at hSw); go_simp; try with_reducible rfl)⟩) (by assumption) ?_; (try simp only [Act.put, List.setIfInBounds_toArray, List.set_cons_zero, List.set_cons_succ, List.getElem_toArray, List.getElem_cons_succ, List.getElem_cons_zero]))
      (refine wpAnyH_take (i := 9) (oi := _) (v := _) rfl (by decide +kernel) (by decide +kernel) (by decide +kernel) (fun _ _ _ h => h) (Or.inl ⟨by rfl, by (intro w hSw; (try dsimp only at hSw); go_simp; try with_reducible rfl)⟩) (by assumption) ?_; (try simp only [Act.put, List.setIfInBounds_toArray, List.set_cons_zero, List.set_cons_succ, List.getElem_toArray, List.getElem_cons_succ, List.getElem_cons_zero]))
      (refine wpAnyH_take (i := 10) (oi := _) (v := _) rfl (by decide +kernel) (by decide +kernel) (by decide +kernel) (fun _ _ _ h => h) (Or.inl ⟨by rfl, by (intro w hSw; (try dsimp only at hSw); go_simp; try with_reducible rfl)⟩) (by assumption) ?_; (try simp only [Act.put, List.setIfInBounds_toArray, List.set_cons_zero, List.set_cons_succ, List.getElem_toArray, List.getElem_cons_succ, List.getElem_cons_zero]))
      refine wpAnyH_ready (rs := [5]) (by decide +kernel) (by simp) ?_
      refine AllReadyH.cons (o := _) rfl (fun K hK => ?_) AllReadyH.nil
      go_simp; go_at_call 69; refine (tfloat_any _ _).mono ?_; rintro e w' ⟨rfl, rfl⟩; go_wp2_with fail
      refine hK.out _ _ (by (try dsimp only); exact hHeld) (fun hNew => ?_); clear hK K; clear hHeld; have hHeld := hNew; clear hNew
      (try simp only [Act.put, List.setIfInBounds_toArray, List.set_cons_zero, List.set_cons_succ, List.getElem_toArray, List.getElem_cons_succ, List.getElem_cons_zero])
      refine wpAnyH_ready (rs := [11]) (by decide +kernel) (by simp) ?_
      refine AllReadyH.cons (o := _) rfl (fun K hK => ?_) AllReadyH.nil
      go_simp; go_at_call 69; refine (tfloat_any _ _).mono ?_; rintro e w' ⟨rfl, rfl⟩; go_wp2_with fail
      refine hK.out _ _ (by (try dsimp only); exact hHeld) (fun hNew => ?_); clear hK K; clear hHeld; have hHeld := hNew; clear hNew
      (try simp only [Act.put, List.setIfInBounds_toArray, List.set_cons_zero, List.set_cons_succ, List.getElem_toArray, List.getElem_cons_succ, List.getElem_cons_zero])
      (refine wpAnyH_take (i := 12) (oi := _) (v := _) rfl (by decide +kernel) (by decide +kernel) (by decide +kernel) (fun _ _ _ h => h) (Or.inl ⟨by rfl, by (intro w hSw; (try dsimp only at hSw); go_simp; try with_reducible rfl)⟩) (by assumption) ?_; (try simp only [Act.put, List.setIfInBounds_toArray, List.set_cons_zero, List.set_cons_succ, List.getElem_toArray, List.getElem_cons_succ, List.getElem_cons_zero]))
      refine wpAnyH_ready (rs := [13]) (by decide +kernel) (by simp) ?_
      refine AllReadyH.cons (o := _) rfl (fun K hK => ?_) AllReadyH.nil
      go_simp
      refine hK.out _ _ (by (try dsimp only); exact ⟨((But.refl [] wr).alloc _).cell hx (by simp), ((But.refl [] wr).alloc _).cell hy (by simp)⟩) (fun hNew => ?_); clear hK K; clear hHeld; have hHeld := hNew; clear hNew
      (try simp only [Act.put, List.setIfInBounds_toArray, List.set_cons_zero, List.set_cons_succ, List.getElem_toArray, List.getElem_cons_succ, List.getElem_cons_zero])
      refine wpAnyH_ready (rs := [14]) (by decide +kernel) (by simp) ?_
      refine AllReadyH.cons (o := _) rfl (fun K hK => ?_) AllReadyH.nil
      refine step_append_rc _ rfl _ _ _ rfl w.heap.size 25 _ 1 16 Try.underlying34 Try.info25 rfl (by omega) u3 k xs rfl (hor.alloc _) (some ⟨wr.heap.size, 0, none⟩) wr.heap.size 0 1 1 (fun _ => ccn (x.toNat, y.toNat)) rfl (fun _ => rfl) (one_rc wr _ _ _ hwf rfl) (by omega) (by omega) (by have := hbt.size; simp; omega) ?_; intro v' w1 hor1 hgr hob hnn; have hb1 : But [] w w1 := ((hbt.alloc _).drew).grown hgr (fun g hg => .inr ((hor.lt g hg).1)); have hrow : ∀ g, u3.ownBlock = some g → g ≠ bb := fun g hg e => by { have := (hor.lt g hg).1; omega }
      refine hK.out _ _ (by (try dsimp only); exact ⟨hgr.cell (((But.refl [] wr).alloc _).cell hx (by simp)) (fun e => hrow _ e.symm rfl), hgr.cell (((But.refl [] wr).alloc _).cell hy (by simp)) (fun e => hrow _ e.symm rfl)⟩) (fun hNew => ?_); clear hK K; clear hHeld; have hHeld := hNew; clear hNew
      (try simp only [Act.put, List.setIfInBounds_toArray, List.set_cons_zero, List.set_cons_succ, List.getElem_toArray, List.getElem_cons_succ, List.getElem_cons_zero])
      (refine wpAnyH_take (i := 15) (oi := _) (v := _) rfl (by decide +kernel) (by decide +kernel) (by decide +kernel) (fun _ _ _ h => h) (Or.inl ⟨by rfl, by (intro w hSw; (try dsimp only at hSw); go_simp; try with_reducible rfl)⟩) (by assumption) ?_; (try simp only [Act.put, List.setIfInBounds_toArray, List.set_cons_zero, List.set_cons_succ, List.getElem_toArray, List.getElem_cons_succ, List.getElem_cons_zero]))
      refine wpAnyH_done (by decide +kernel) ?_ _
      refine NoPanic.normal ?_; (try simp only [Exit.then])
      have t7 : IntKind.i64.wrap ((k : Int) * 2 + 2) = (k : Int) * 2 + 2 := IntWalk.i64_in _ (by omega)
      go_wp2_with fail
      exact ⟨⟨k + 1, _, by omega, by go_num, hor1, hb1⟩, by simp [intOf]; omega⟩
    · have t0 : decide ((k : Int) * 2 + 1 < n) = false := by simp; omega
      go_wp2_with fail
      go_ret
      exact ⟨_, xs, rfl, by rw [show n / 2 = k by omega]; exact hor, hbt⟩
end Go.Proofs.Ytnmpofjegepmaaa
