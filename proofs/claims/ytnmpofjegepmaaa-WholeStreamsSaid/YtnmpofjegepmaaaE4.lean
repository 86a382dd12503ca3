/- works: a filter out of bytes. -/
import Derived.Test.YtnmpofjegepmaaaE3
namespace Go.Proofs.Ytnmpofjegepmaaa
open Go.RowKit Go.Proofs.Ytnmpofjegepmaaa.Fl

/-- A row of bytes. -/
def R8 (w : World) (b o m : Nat) : Prop := ∀ j, j < m → ∃ x : Nat, w.cell? ⟨b, o + j, none⟩ = some (.int .u8 (x : Int)) ∧ x < 256
theorem R8.keep {w w' : World} {b o m : Nat} {qs : List Nat} (h : R8 w b o m) (k : But qs w w') (hb : b ∉ qs) : R8 w' b o m := fun j hj => by
  obtain ⟨a, h1, h2⟩ := h j hj
  exact ⟨a, k.cell h1 hb, h2⟩

theorem But.undrew {qs : List Nat} {a b : World} (h : But qs a.drew b) : But qs a b := ⟨h.os, h.tape, h.output, h.size, h.block⟩
theorem OR.shape2n {w : World} {base t size n : Nat} {v : Value} {xs : Nat → C} (h : OR w base t size v n xs) : ∃ A g c, v = .slice A n c ∧ (0 < n → A = some ⟨g, 0, none⟩) ∧ RC w g 0 (n * size) xs ∧ base ≤ g ∧ ((A = none ∧ n = 0 ∧ c = 0) ∨ (∃ a, A = some a ∧ (0 < n → a = ⟨g, 0, none⟩))) := by
  rcases h.form with ⟨rfl, rfl⟩ | ⟨g, c, rfl, hb, _, ho⟩
  · exact ⟨none, base, 0, rfl, fun h => by omega, fun j hj => by simp at hj, Nat.le_refl _, .inl ⟨rfl, rfl, rfl⟩⟩
  · exact ⟨_, g, c, rfl, fun _ => rfl, ho.rc, hb, .inr ⟨_, rfl, fun _ => rfl⟩⟩
theorem OR.shape2 {w : World} {base t size n : Nat} {v : Value} {xs : Nat → C} (h : OR w base t size v n xs) : ∃ A g c, v = .slice A n c ∧ (0 < n → A = some ⟨g, 0, none⟩) ∧ RC w g 0 (n * size) xs ∧ base ≤ g := by
  rcases h.form with ⟨rfl, rfl⟩ | ⟨g, c, rfl, hb, _, ho⟩
  · exact ⟨none, base, 0, rfl, fun h => by omega, fun j hj => by simp at hj, Nat.le_refl _⟩
  · exact ⟨_, g, c, rfl, fun _ => rfl, ho.rc, hb⟩
/-- A section that begins with 1. -/
def sec5 (s1 s2 s3 s4 : C) (j : Nat) : C := if j = 0 then ONE else if j = 1 then ccn s1 else if j = 2 then ccn s2 else if j = 3 then ccn s3 else ccn s4
theorem sec5_rc (w : World) (s1 s2 s3 s4 : C) (h1 : wf s1) (h2 : wf s2) (h3 : wf s3) (h4 : wf s4) :
    RC (w.alloc (.cells #[.complex .f64 4607182418800017408 0, .complex .f64 s1.1 s1.2, .complex .f64 s2.1 s2.2, .complex .f64 s3.1 s3.2, .complex .f64 s4.1 s4.2] 33)) w.heap.size 0 (1 * 5) (sec5 s1 s2 s3 s4) := by
  intro j hj
  have : j = 0 ∨ j = 1 ∨ j = 2 ∨ j = 3 ∨ j = 4 := by omega
  rcases this with rfl | rfl | rfl | rfl | rfl
  · exact ⟨ONE, by simp [go_sem, V, ONE], by simp [wf, ONE], by show ccn ONE = ONE; decide⟩
  · exact ⟨s1, by simp [go_sem, V], h1, rfl⟩
  · exact ⟨s2, by simp [go_sem, V], h2, rfl⟩
  · exact ⟨s3, by simp [go_sem, V], h3, rfl⟩
  · exact ⟨s4, by simp [go_sem, V], h4, rfl⟩
/-- Sections that begin with 1, of numbers alone. -/
def Plain (n : Nat) (Sc : Nat → C) : Prop := ∀ i, i < n → Sc (i * 5) = ONE ∧ FinC (Sc (i * 5 + 1)) ∧ FinC (Sc (i * 5 + 2)) ∧ FinC (Sc (i * 5 + 3)) ∧ FinC (Sc (i * 5 + 4))
theorem finC_cc {s : C} (h : FinC s) : FinC (ccn s) := by unfold FinC ccn; rw [finB_cn]; exact h
theorem Plain.more {n : Nat} {Sc : Nat → C} (h : Plain n Sc) {s1 s2 s3 s4 : C} (h1 : FinC s1) (h2 : FinC s2) (h3 : FinC s3) (h4 : FinC s4) : Plain (n + 1) (cat (n * 5) Sc (sec5 s1 s2 s3 s4)) := by
  intro i hi
  by_cases hin : i < n
  · rw [cat_lt (by omega), cat_lt (by omega), cat_lt (by omega), cat_lt (by omega), cat_lt (by omega)]
    exact h i hin
  · obtain rfl : i = n := by omega
    rw [cat_ge (by omega), cat_ge (by omega), cat_ge (by omega), cat_ge (by omega), cat_ge (by omega)]
    simp only [Nat.sub_self, Nat.add_sub_cancel_left]
    exact ⟨rfl, finC_cc h1, finC_cc h2, finC_cc h3, finC_cc h4⟩
theorem Plain.fin {n : Nat} {Sc : Nat → C} (h : Plain n Sc) : ∀ j, j < n * 5 → FinC (Sc j) := by
  intro j hj
  obtain ⟨a, b, c, d, e⟩ := h (j / 5) (by omega)
  have : j = j / 5 * 5 ∨ j = j / 5 * 5 + 1 ∨ j = j / 5 * 5 + 2 ∨ j = j / 5 * 5 + 3 ∨ j = j / 5 * 5 + 4 := by omega
  rcases this with h | h | h | h | h <;> rw [h]
  · rw [a]; exact finC_ex one_ex
  · exact b
  · exact c
  · exact d
  · exact e

/-- 3/4 + i/2. -/
def GN : C := (4604930618986332160, 4602678819172646912)

set_option linter.unusedSimpArgs false in
set_option maxHeartbeats 1000000 in
set_option maxRecDepth 100000 in
theorem works_full (bb bo n kb : Nat) (B : Option Addr) (w : World) (hB : 0 < n → B = some ⟨bb, bo, none⟩) (hb : R8 w bb bo n) (hn : n ≤ 9223372036854775807) :
    Calls Try.prog 14 #[.slice B n kb] w fun e w' => ∃ A fb fk m Sc, e = .returned (.agg #[.complex .f64 4604930618986332160 4602678819172646912, .slice A m fk]) ∧ m ≤ 4 ∧ (0 < m → A = some ⟨fb, 0, none⟩) ∧ RC w' fb 0 (m * 5) Sc ∧ Plain m Sc ∧ ((A = none ∧ m = 0 ∧ fk = 0) ∨ (∃ a, A = some a ∧ (0 < m → a = ⟨fb, 0, none⟩))) ∧ But [] w w' := by
  have HB := Lib.hid hB
  clear hB
  go_enter Try.func14, Try.ntmps14
  go_wp2_with fail
  obtain ⟨w0, hw0, hbw, hfb0, hrb0, hs0⟩ : ∃ w0, (w.alloc (.cells #[.complex .f64 0 0, .slice none 0 0] 28)).alloc (.cells #[.complex .f64 4604930618986332160 4602678819172646912, .slice none 0 0] 28) = w0 ∧ But [] w w0 ∧ w0.heap[w.heap.size + 1]? = some (.cells #[.complex .f64 4604930618986332160 4602678819172646912, .slice none 0 0] 28 (0, 0)) ∧ w0.heap[w.heap.size]? = some (.cells #[.complex .f64 0 0, .slice none 0 0] 28 (0, 0)) ∧ w0.heap.size = w.heap.size + 1 + 1 :=
    ⟨_, rfl, ((But.refl _ _).alloc _).alloc _, by have := heap_alloc_new (w.alloc (.cells #[.complex .f64 0 0, .slice none 0 0] 28)) (.cells #[.complex .f64 4604930618986332160 4602678819172646912, .slice none 0 0] 28); simpa using this, (Below.heap_alloc _ _ _ (by simp)).trans (heap_alloc_new w _), by simp⟩
  rw [hw0]
  clear hw0
  generalize hF : w.heap.size + 1 = F at *
  have HF := Lib.hid hF
  have HS0 := Lib.hid hs0
  have HRB0 := Lib.hid hrb0
  clear hF hs0 hrb0
  go_loopw [4] (fun i wr => ∃ (k : Nat) (v : Value) (Sc : Nat → C), k ≤ 4 ∧ i = .int .i64 ((k : Int) * 3) ∧ OR wr (F + 1) 33 5 v k Sc ∧ Plain k Sc ∧ wr.heap[F]? = some (.cells #[.complex .f64 4604930618986332160 4602678819172646912, v] 28 (0, 0)) ∧ But [F] w0 wr) (fun i _ => 12 - (intOf i).toNat)
  case atStart => exact ⟨0, .slice none 0 0, fun _ => Z0, by omega, rfl, OR.nil _ _ _ _ _, fun i hi => by omega, hfb0, But.refl _ _⟩
  case round =>
    obtain ⟨k, v, Sc, hk, rfl, hor, hpl, hfb, hbt⟩ := hrel
    have hF' := HF.out
    have hS0' := HS0.out
    have HFB := Lib.hid hfb
    clear hfb
    have hc1 : wr.cell? ⟨F, 1, none⟩ = some v := by rw [cell_of_row wr F 1 _ _ _ HFB.out]; rfl
    have ta : IntKind.i64.wrap ((k : Int) * 3 + 2) = (k : Int) * 3 + 2 := IntWalk.i64_in _ (by omega)
    by_cases hlt : k * 3 + 2 < n
    · have t1 : decide ((k : Int) * 3 + 2 < n) = true := by simp; omega
      by_cases h4 : k < 4
      · have t2 : decide ((k : Int) * 3 < 12) = true := by simp; omega
        obtain rfl := HB.out (by omega)
        clear HB
        have hbl : bb < w.heap.size := by
          obtain ⟨_, h, _⟩ := hb 0 (by omega)
          exact World.block_lt_of_cell? _ _ h
        have hb' := (hb.keep hbw (by simp)).keep hbt (by simp; omega)
        obtain ⟨x, hx, ux⟩ := hb' (k * 3) (by omega)
        obtain ⟨y, hy, uy⟩ := hb' (k * 3 + 1) (by omega)
        obtain ⟨z, hz, uz⟩ := hb' (k * 3 + 2) (by omega)
        clear hb'
        have i1 : (k : Int) * 3 < n := by omega
        have i2 : (k : Int) * 3 + 1 < n := by omega
        have i3 : (k : Int) * 3 + 2 < n := by omega
        have i4 : ((k : Int) * 3).toNat = k * 3 := by omega
        have i5 : ((k : Int) * 3 + 1).toNat = k * 3 + 1 := by omega
        have i6 : ((k : Int) * 3 + 2).toNat = k * 3 + 2 := by omega
        have i7 : IntKind.i64.wrap ((k : Int) * 3 + 1) = (k : Int) * 3 + 1 := IntWalk.i64_in _ (by omega)
        have i8 : (0 : Int) ≤ (k : Int) * 3 := by omega
        have i9 : (0 : Int) ≤ (k : Int) * 3 + 1 := by omega
        have i10 : (0 : Int) ≤ (k : Int) * 3 + 2 := by omega
        go_wp2_with fail
        refine wp_region_noPanic ?_
        refine wp_region_held_drew (S := fun w' => w'.cell? ⟨bb, bo + k * 3, none⟩ = some (.int .u8 (x : Int)) ∧ w'.cell? ⟨bb, bo + (k * 3 + 1), none⟩ = some (.int .u8 (y : Int)) ∧ w'.cell? ⟨bb, bo + (k * 3 + 2), none⟩ = some (.int .u8 (z : Int))) (by kernel_rfl) ?_ (fun hHeld => ?_)
        · (try dsimp only); exact ⟨hx, hy, hz⟩
        (refine wpAnyH_take (i := 0) (oi := _) (v := _) rfl (by decide +kernel) (by decide +kernel) (by decide +kernel) (fun _ _ _ h => h) (Or.inl ⟨by rfl, by (intro w hSw; (try dsimp only at hSw); go_simp; try with_reducible rfl)⟩) (by assumption) ?_; (try simp only [Act.put, List.setIfInBounds_toArray, List.set_cons_zero, List.set_cons_succ, List.getElem_toArray, List.getElem_cons_succ, List.getElem_cons_zero]))
        (refine wpAnyH_take (i := 2) (oi := _) (v := _) rfl (by decide +kernel) (by decide +kernel) (by decide +kernel) (fun _ _ _ h => h) (Or.inl ⟨by rfl, by (intro w hSw; (try dsimp only at hSw); go_simp; try with_reducible rfl)⟩) (by assumption) ?_; (try simp only [Act.put, List.setIfInBounds_toArray, List.set_cons_zero, List.set_cons_succ, List.getElem_toArray, List.getElem_cons_succ, List.getElem_cons_zero]))
        (refine wpAnyH_take (i := 3) (oi := _) (v := _) rfl (by decide +kernel) (by decide +kernel) (by decide +kernel) (fun _ _ _ h => h) (Or.inl ⟨by rfl, by (intro w hSw; (try dsimp only at hSw); go_simp; try with_reducible rfl)⟩) (by assumption) ?_; (try simp only [Act.put, List.setIfInBounds_toArray, List.set_cons_zero, List.set_cons_succ, List.getElem_toArray, List.getElem_cons_succ, List.getElem_cons_zero]))
        (refine wpAnyH_take (i := 4) (oi := _) (v := _) rfl (by decide +kernel) (by decide +kernel) (by decide +kernel) (fun _ _ _ h => h) (Or.inl ⟨by rfl, by (intro w hSw; (try dsimp only at hSw); go_simp; try with_reducible rfl)⟩) (by assumption) ?_; (try simp only [Act.put, List.setIfInBounds_toArray, List.set_cons_zero, List.set_cons_succ, List.getElem_toArray, List.getElem_cons_succ, List.getElem_cons_zero]))
        (refine wpAnyH_take (i := 5) (oi := _) (v := _) rfl (by decide +kernel) (by decide +kernel) (by decide +kernel) (fun _ _ _ h => h) (Or.inl ⟨by rfl, by (intro w hSw; (try dsimp only at hSw); go_simp; try with_reducible rfl)⟩) (by assumption) ?_; (try simp only [Act.put, List.setIfInBounds_toArray, List.set_cons_zero, List.set_cons_succ, List.getElem_toArray, List.getElem_cons_succ, List.getElem_cons_zero]))
        (refine wpAnyH_take (i := 6) (oi := _) (v := _) rfl (by decide +kernel) (by decide +kernel) (by decide +kernel) (fun _ _ _ h => h) (Or.inl ⟨by rfl, by (intro w hSw; (try dsimp only at hSw); go_simp; try with_reducible rfl)⟩) (by assumption) ?_; (try simp only [Act.put, List.setIfInBounds_toArray, List.set_cons_zero, List.set_cons_succ, List.getElem_toArray, List.getElem_cons_succ, List.getElem_cons_zero]))
        (refine wpAnyH_take (i := 7) (oi := _) (v := _) rfl (by decide +kernel) (by decide +kernel) (by decide +kernel) (fun _ _ _ h => h) (Or.inl ⟨by rfl, by (intro w hSw; (try dsimp only at hSw); go_simp; try with_reducible rfl)⟩) (by assumption) ?_; (try simp only [Act.put, List.setIfInBounds_toArray, List.set_cons_zero, List.set_cons_succ, List.getElem_toArray, List.getElem_cons_succ, List.getElem_cons_zero]))
        (refine wpAnyH_take (i := 8) (oi := _) (v := _) rfl (by decide +kernel) (by decide +kernel) (by decide +kernel) (fun _ _ _ h => h) (Or.inl ⟨by rfl, by (intro w hSw; (try dsimp only at hSw); go_simp; try with_reducible rfl)⟩) (by assumption) ?_; (try simp only [Act.put, List.setIfInBounds_toArray, List.set_cons_zero, List.set_cons_succ, List.getElem_toArray, List.getElem_cons_succ, List.getElem_cons_zero]))
        (refine wpAnyH_take (i := 9) (oi := _) (v := _) rfl (by decide +kernel) (by decide +kernel) (by decide +kernel) (fun _ _ _ h => h) (Or.inl ⟨by rfl, by (intro w hSw; (try dsimp only at hSw); go_simp; try with_reducible rfl)⟩) (by assumption) ?_; (try simp only [Act.put, List.setIfInBounds_toArray, List.set_cons_zero, List.set_cons_succ, List.getElem_toArray, List.getElem_cons_succ, List.getElem_cons_zero]))
        (refine wpAnyH_take (i := 10) (oi := _) (v := _) rfl (by decide +kernel) (by decide +kernel) (by decide +kernel) (fun _ _ _ h => h) (Or.inl ⟨by rfl, by (intro w hSw; (try dsimp only at hSw); go_simp; try with_reducible rfl)⟩) (by assumption) ?_; (try simp only [Act.put, List.setIfInBounds_toArray, List.set_cons_zero, List.set_cons_succ, List.getElem_toArray, List.getElem_cons_succ, List.getElem_cons_zero]))
        (refine wpAnyH_take (i := 11) (oi := _) (v := _) rfl (by decide +kernel) (by decide +kernel) (by decide +kernel) (fun _ _ _ h => h) (Or.inl ⟨by rfl, by (intro w hSw; (try dsimp only at hSw); go_simp; try with_reducible rfl)⟩) (by assumption) ?_; (try simp only [Act.put, List.setIfInBounds_toArray, List.set_cons_zero, List.set_cons_succ, List.getElem_toArray, List.getElem_cons_succ, List.getElem_cons_zero]))
        (refine wpAnyH_take (i := 12) (oi := _) (v := _) rfl (by decide +kernel) (by decide +kernel) (by decide +kernel) (fun _ _ _ h => h) (Or.inl ⟨by rfl, by (intro w hSw; (try dsimp only at hSw); go_simp; try with_reducible rfl)⟩) (by assumption) ?_; (try simp only [Act.put, List.setIfInBounds_toArray, List.set_cons_zero, List.set_cons_succ, List.getElem_toArray, List.getElem_cons_succ, List.getElem_cons_zero]))
        (refine wpAnyH_take (i := 13) (oi := _) (v := _) rfl (by decide +kernel) (by decide +kernel) (by decide +kernel) (fun _ _ _ h => h) (Or.inl ⟨by rfl, by (intro w hSw; (try dsimp only at hSw); go_simp; try with_reducible rfl)⟩) (by assumption) ?_; (try simp only [Act.put, List.setIfInBounds_toArray, List.set_cons_zero, List.set_cons_succ, List.getElem_toArray, List.getElem_cons_succ, List.getElem_cons_zero]))
        (refine wpAnyH_take (i := 14) (oi := _) (v := _) rfl (by decide +kernel) (by decide +kernel) (by decide +kernel) (fun _ _ _ h => h) (Or.inl ⟨by rfl, by (intro w hSw; (try dsimp only at hSw); go_simp; try with_reducible rfl)⟩) (by assumption) ?_; (try simp only [Act.put, List.setIfInBounds_toArray, List.set_cons_zero, List.set_cons_succ, List.getElem_toArray, List.getElem_cons_succ, List.getElem_cons_zero]))
        (refine wpAnyH_take (i := 15) (oi := _) (v := _) rfl (by decide +kernel) (by decide +kernel) (by decide +kernel) (fun _ _ _ h => h) (Or.inl ⟨by rfl, by (intro w hSw; (try dsimp only at hSw); go_simp; try with_reducible rfl)⟩) (by assumption) ?_; (try simp only [Act.put, List.setIfInBounds_toArray, List.set_cons_zero, List.set_cons_succ, List.getElem_toArray, List.getElem_cons_succ, List.getElem_cons_zero]))
        refine wpAnyH_ready (rs := [1, 16]) (by decide +kernel) (by simp) ?_
        refine AllReadyH.cons (o := _) rfl (fun K hK => ?_) ?_
        · go_simp
          refine hK.out _ _ (by (try dsimp only); exact hHeld) (fun hNew => ?_); clear hK K; clear hHeld; have hHeld := hNew; clear hNew
          (try simp only [Act.put, List.setIfInBounds_toArray, List.set_cons_zero, List.set_cons_succ, List.getElem_toArray, List.getElem_cons_succ, List.getElem_cons_zero])
          refine wpAnyH_ready (rs := [16]) (by decide +kernel) (by simp) ?_
          refine AllReadyH.cons (o := _) rfl (fun K hK => ?_) AllReadyH.nil
          go_simp; go_at_call 68; refine (section_any x y z ux uy uz _).mono ?_; rintro e w1 ⟨s1, s2, s3, s4, rfl, ⟨g1, g2, g3, g4⟩, ⟨f1, f2, f3, f4⟩, hbd⟩; have hb1 : But [] wr w1 := hbd.undrew; clear hbd; have hor1 := hor.keep (w' := w1) hb1 (by simp); have hfb1 : w1.heap[F]? = _ := hb1.heap HFB.out (by simp); have hF1l := (Array.getElem?_eq_some_iff.1 hfb1).1; have HFB1 := Lib.hid hfb1; clear hfb1; have hc1' : w1.cell? ⟨F, 1, none⟩ = some v := (by rw [cell_of_row w1 F 1 _ _ _ HFB1.out]; rfl); have hc1a : ∀ o, (w1.alloc o).cell? ⟨F, 1, none⟩ = some v := fun o => ((But.refl [] w1).alloc o).cell hc1' (by simp); go_wp2_with fail
          refine hK.out _ _ (by (try dsimp only); exact ⟨hb1.cell hHeld.1 (by simp), hb1.cell hHeld.2.1 (by simp), hb1.cell hHeld.2.2 (by simp)⟩) (fun hNew => ?_); clear hK K; clear hHeld; have hHeld := hNew; clear hNew
          (try simp only [Act.put, List.setIfInBounds_toArray, List.set_cons_zero, List.set_cons_succ, List.getElem_toArray, List.getElem_cons_succ, List.getElem_cons_zero])
          refine wpAnyH_ready (rs := [17]) (by decide +kernel) (by simp) ?_
          refine AllReadyH.cons (o := _) rfl (fun K hK => ?_) AllReadyH.nil
          go_simp
          refine hK.out _ _ (by (try dsimp only); exact ⟨((But.refl [] w1).alloc _).cell hHeld.1 (by simp), ((But.refl [] w1).alloc _).cell hHeld.2.1 (by simp), ((But.refl [] w1).alloc _).cell hHeld.2.2 (by simp)⟩) (fun hNew => ?_); clear hK K; clear hHeld; have hHeld := hNew; clear hNew
          (try simp only [Act.put, List.setIfInBounds_toArray, List.set_cons_zero, List.set_cons_succ, List.getElem_toArray, List.getElem_cons_succ, List.getElem_cons_zero])
          refine wpAnyH_ready (rs := [18]) (by decide +kernel) (by simp) ?_
          refine AllReadyH.cons (o := _) rfl (fun K hK => ?_) AllReadyH.nil
          refine step_append_rc _ rfl _ _ _ rfl (F + 1) 33 _ 5 80 Try.underlying26 Try.info33 rfl (by omega) v k Sc rfl (hor1.alloc _) (some ⟨w1.heap.size, 0, none⟩) w1.heap.size 0 1 1 (sec5 s1 s2 s3 s4) rfl (fun _ => rfl) (sec5_rc w1 s1 s2 s3 s4 g1 g2 g3 g4) (by omega) (by omega) (by simp; omega) ?_; intro v' w2 hor2 hgr hob hnn; have hrow : ∀ g, v.ownBlock = some g → F + 1 ≤ g := fun g hg => (hor.lt g hg).1; have hfb2 := (hgr.block F (by simp; omega) (fun e => by have := hrow F e.symm; omega)).trans ((Below.heap_alloc w1 _ F hF1l).trans HFB1.out); obtain ⟨vg, vk, rfl, hvb, hvk, _⟩ : ∃ g cap, v' = .slice (some ⟨g, 0, none⟩) (k + 1) cap ∧ F + 1 ≤ g ∧ k + 1 ≤ cap ∧ OC w2 g 33 ((k + 1) * 5) (cat (k * 5) Sc (sec5 s1 s2 s3 s4)) := hor2.form.resolve_left (fun h => by have := h.2; omega); have hc2 : w2.cell? ⟨F, 1, none⟩ = some v := (by rw [cell_of_row w2 F 1 _ _ _ hfb2]; rfl); have hz2 : w2.frozen? ⟨F, 1, none⟩ = false := blk_free hfb2; have HFB2 := Lib.hid hfb2; clear hfb2; have hb2 : But [F] w0 w2 := ((hbt.trans (hb1.weak (by simp))).alloc _).grown hgr (fun g hg => .inr (by have := hrow g hg; omega))
          refine hK.out _ _ (by (try dsimp only); exact ⟨hgr.cell hHeld.1 (fun e => by have hq : F + 1 ≤ bb := hrow _ e.symm; omega), hgr.cell hHeld.2.1 (fun e => by have hq : F + 1 ≤ bb := hrow _ e.symm; omega), hgr.cell hHeld.2.2 (fun e => by have hq : F + 1 ≤ bb := hrow _ e.symm; omega)⟩) (fun hNew => ?_); clear hK K; clear hHeld; have hHeld := hNew; clear hNew
          (try simp only [Act.put, List.setIfInBounds_toArray, List.set_cons_zero, List.set_cons_succ, List.getElem_toArray, List.getElem_cons_succ, List.getElem_cons_zero])
          (refine wpAnyH_take (i := 19) (oi := _) (v := _) rfl (by decide +kernel) (by decide +kernel) (by decide +kernel) (fun _ _ _ h => h) (Or.inl ⟨by rfl, by (intro w hSw; (try dsimp only at hSw); go_simp; try with_reducible rfl)⟩) (by assumption) ?_; (try simp only [Act.put, List.setIfInBounds_toArray, List.set_cons_zero, List.set_cons_succ, List.getElem_toArray, List.getElem_cons_succ, List.getElem_cons_zero]))
          refine wpAnyH_ready (rs := [20]) (by decide +kernel) (by simp) ?_
          refine AllReadyH.cons (o := _) rfl (fun K hK => ?_) AllReadyH.nil
          go_simp
          refine hK.out _ _ (by (try dsimp only); (refine ⟨?_, ?_, ?_⟩ <;> (rw [World.cell?_setCell_far _ _ _ _ (by simp; omega)]; simp only [hHeld]))) (fun hNew => ?_); clear hK K; clear hHeld; have hHeld := hNew; clear hNew
          (try simp only [Act.put, List.setIfInBounds_toArray, List.set_cons_zero, List.set_cons_succ, List.getElem_toArray, List.getElem_cons_succ, List.getElem_cons_zero])
          refine wpAnyH_done (by decide +kernel) ?_ _
          refine NoPanic.normal ?_; (try simp only [Exit.then])
          have t7 : IntKind.i64.wrap ((k : Int) * 3 + 3) = (k : Int) * 3 + 3 := IntWalk.i64_in _ (by omega)
          go_wp2_with fail
          exact ⟨⟨k + 1, _, _, by omega, by go_num, hor2.keep ((But.refl [F] w2).setCell _ _ (.inl (by simp))) (fun g hg => by simp [Value.ownBlock] at hg; simp; omega), hpl.more f1 f2 f3 f4, blk_set _ _ _ _ _ _ HFB2.out, hb2.setCell _ _ (.inl (by simp))⟩, by simp [intOf]; omega⟩
        refine AllReadyH.cons (o := _) rfl (fun K hK => ?_) AllReadyH.nil
        go_simp; go_at_call 68; refine (section_any x y z ux uy uz _).mono ?_; rintro e w1 ⟨s1, s2, s3, s4, rfl, ⟨g1, g2, g3, g4⟩, ⟨f1, f2, f3, f4⟩, hbd⟩; have hb1 : But [] wr w1 := hbd.undrew; clear hbd; have hor1 := hor.keep (w' := w1) hb1 (by simp); have hfb1 : w1.heap[F]? = _ := hb1.heap HFB.out (by simp); have hF1l := (Array.getElem?_eq_some_iff.1 hfb1).1; have HFB1 := Lib.hid hfb1; clear hfb1; have hc1' : w1.cell? ⟨F, 1, none⟩ = some v := (by rw [cell_of_row w1 F 1 _ _ _ HFB1.out]; rfl); have hc1a : ∀ o, (w1.alloc o).cell? ⟨F, 1, none⟩ = some v := fun o => ((But.refl [] w1).alloc o).cell hc1' (by simp); go_wp2_with fail
        refine hK.out _ _ (by (try dsimp only); exact ⟨hb1.cell hHeld.1 (by simp), hb1.cell hHeld.2.1 (by simp), hb1.cell hHeld.2.2 (by simp)⟩) (fun hNew => ?_); clear hK K; clear hHeld; have hHeld := hNew; clear hNew
        (try simp only [Act.put, List.setIfInBounds_toArray, List.set_cons_zero, List.set_cons_succ, List.getElem_toArray, List.getElem_cons_succ, List.getElem_cons_zero])
        refine wpAnyH_ready (rs := [1, 17]) (by decide +kernel) (by simp) ?_
        refine AllReadyH.cons (o := _) rfl (fun K hK => ?_) ?_
        · go_simp
          refine hK.out _ _ (by (try dsimp only); exact hHeld) (fun hNew => ?_); clear hK K; clear hHeld; have hHeld := hNew; clear hNew
          (try simp only [Act.put, List.setIfInBounds_toArray, List.set_cons_zero, List.set_cons_succ, List.getElem_toArray, List.getElem_cons_succ, List.getElem_cons_zero])
          refine wpAnyH_ready (rs := [17]) (by decide +kernel) (by simp) ?_
          refine AllReadyH.cons (o := _) rfl (fun K hK => ?_) AllReadyH.nil
          go_simp
          refine hK.out _ _ (by (try dsimp only); exact ⟨((But.refl [] w1).alloc _).cell hHeld.1 (by simp), ((But.refl [] w1).alloc _).cell hHeld.2.1 (by simp), ((But.refl [] w1).alloc _).cell hHeld.2.2 (by simp)⟩) (fun hNew => ?_); clear hK K; clear hHeld; have hHeld := hNew; clear hNew
          (try simp only [Act.put, List.setIfInBounds_toArray, List.set_cons_zero, List.set_cons_succ, List.getElem_toArray, List.getElem_cons_succ, List.getElem_cons_zero])
          refine wpAnyH_ready (rs := [18]) (by decide +kernel) (by simp) ?_
          refine AllReadyH.cons (o := _) rfl (fun K hK => ?_) AllReadyH.nil
          refine step_append_rc _ rfl _ _ _ rfl (F + 1) 33 _ 5 80 Try.underlying26 Try.info33 rfl (by omega) v k Sc rfl (hor1.alloc _) (some ⟨w1.heap.size, 0, none⟩) w1.heap.size 0 1 1 (sec5 s1 s2 s3 s4) rfl (fun _ => rfl) (sec5_rc w1 s1 s2 s3 s4 g1 g2 g3 g4) (by omega) (by omega) (by simp; omega) ?_; intro v' w2 hor2 hgr hob hnn; have hrow : ∀ g, v.ownBlock = some g → F + 1 ≤ g := fun g hg => (hor.lt g hg).1; have hfb2 := (hgr.block F (by simp; omega) (fun e => by have := hrow F e.symm; omega)).trans ((Below.heap_alloc w1 _ F hF1l).trans HFB1.out); obtain ⟨vg, vk, rfl, hvb, hvk, _⟩ : ∃ g cap, v' = .slice (some ⟨g, 0, none⟩) (k + 1) cap ∧ F + 1 ≤ g ∧ k + 1 ≤ cap ∧ OC w2 g 33 ((k + 1) * 5) (cat (k * 5) Sc (sec5 s1 s2 s3 s4)) := hor2.form.resolve_left (fun h => by have := h.2; omega); have hc2 : w2.cell? ⟨F, 1, none⟩ = some v := (by rw [cell_of_row w2 F 1 _ _ _ hfb2]; rfl); have hz2 : w2.frozen? ⟨F, 1, none⟩ = false := blk_free hfb2; have HFB2 := Lib.hid hfb2; clear hfb2; have hb2 : But [F] w0 w2 := ((hbt.trans (hb1.weak (by simp))).alloc _).grown hgr (fun g hg => .inr (by have := hrow g hg; omega))
          refine hK.out _ _ (by (try dsimp only); exact ⟨hgr.cell hHeld.1 (fun e => by have hq : F + 1 ≤ bb := hrow _ e.symm; omega), hgr.cell hHeld.2.1 (fun e => by have hq : F + 1 ≤ bb := hrow _ e.symm; omega), hgr.cell hHeld.2.2 (fun e => by have hq : F + 1 ≤ bb := hrow _ e.symm; omega)⟩) (fun hNew => ?_); clear hK K; clear hHeld; have hHeld := hNew; clear hNew
          (try simp only [Act.put, List.setIfInBounds_toArray, List.set_cons_zero, List.set_cons_succ, List.getElem_toArray, List.getElem_cons_succ, List.getElem_cons_zero])
          (refine wpAnyH_take (i := 19) (oi := _) (v := _) rfl (by decide +kernel) (by decide +kernel) (by decide +kernel) (fun _ _ _ h => h) (Or.inl ⟨by rfl, by (intro w hSw; (try dsimp only at hSw); go_simp; try with_reducible rfl)⟩) (by assumption) ?_; (try simp only [Act.put, List.setIfInBounds_toArray, List.set_cons_zero, List.set_cons_succ, List.getElem_toArray, List.getElem_cons_succ, List.getElem_cons_zero]))
          refine wpAnyH_ready (rs := [20]) (by decide +kernel) (by simp) ?_
          refine AllReadyH.cons (o := _) rfl (fun K hK => ?_) AllReadyH.nil
          go_simp
          refine hK.out _ _ (by (try dsimp only); (refine ⟨?_, ?_, ?_⟩ <;> (rw [World.cell?_setCell_far _ _ _ _ (by simp; omega)]; simp only [hHeld]))) (fun hNew => ?_); clear hK K; clear hHeld; have hHeld := hNew; clear hNew
          (try simp only [Act.put, List.setIfInBounds_toArray, List.set_cons_zero, List.set_cons_succ, List.getElem_toArray, List.getElem_cons_succ, List.getElem_cons_zero])
          refine wpAnyH_done (by decide +kernel) ?_ _
          refine NoPanic.normal ?_; (try simp only [Exit.then])
          have t7 : IntKind.i64.wrap ((k : Int) * 3 + 3) = (k : Int) * 3 + 3 := IntWalk.i64_in _ (by omega)
          go_wp2_with fail
          exact ⟨⟨k + 1, _, _, by omega, by go_num, hor2.keep ((But.refl [F] w2).setCell _ _ (.inl (by simp))) (fun g hg => by simp [Value.ownBlock] at hg; simp; omega), hpl.more f1 f2 f3 f4, blk_set _ _ _ _ _ _ HFB2.out, hb2.setCell _ _ (.inl (by simp))⟩, by simp [intOf]; omega⟩
        refine AllReadyH.cons (o := _) rfl (fun K hK => ?_) AllReadyH.nil
        go_simp
        refine hK.out _ _ (by (try dsimp only); exact ⟨((But.refl [] w1).alloc _).cell hHeld.1 (by simp), ((But.refl [] w1).alloc _).cell hHeld.2.1 (by simp), ((But.refl [] w1).alloc _).cell hHeld.2.2 (by simp)⟩) (fun hNew => ?_); clear hK K; clear hHeld; have hHeld := hNew; clear hNew
        (try simp only [Act.put, List.setIfInBounds_toArray, List.set_cons_zero, List.set_cons_succ, List.getElem_toArray, List.getElem_cons_succ, List.getElem_cons_zero])
        refine wpAnyH_ready (rs := [1]) (by decide +kernel) (by simp) ?_
        refine AllReadyH.cons (o := _) rfl (fun K hK => ?_) AllReadyH.nil
        go_simp
        refine hK.out _ _ (by (try dsimp only); exact hHeld) (fun hNew => ?_); clear hK K; clear hHeld; have hHeld := hNew; clear hNew
        (try simp only [Act.put, List.setIfInBounds_toArray, List.set_cons_zero, List.set_cons_succ, List.getElem_toArray, List.getElem_cons_succ, List.getElem_cons_zero])
        refine wpAnyH_ready (rs := [18]) (by decide +kernel) (by simp) ?_
        refine AllReadyH.cons (o := _) rfl (fun K hK => ?_) AllReadyH.nil
        refine step_append_rc _ rfl _ _ _ rfl (F + 1) 33 _ 5 80 Try.underlying26 Try.info33 rfl (by omega) v k Sc rfl (hor1.alloc _) (some ⟨w1.heap.size, 0, none⟩) w1.heap.size 0 1 1 (sec5 s1 s2 s3 s4) rfl (fun _ => rfl) (sec5_rc w1 s1 s2 s3 s4 g1 g2 g3 g4) (by omega) (by omega) (by simp; omega) ?_; intro v' w2 hor2 hgr hob hnn; have hrow : ∀ g, v.ownBlock = some g → F + 1 ≤ g := fun g hg => (hor.lt g hg).1; have hfb2 := (hgr.block F (by simp; omega) (fun e => by have := hrow F e.symm; omega)).trans ((Below.heap_alloc w1 _ F hF1l).trans HFB1.out); obtain ⟨vg, vk, rfl, hvb, hvk, _⟩ : ∃ g cap, v' = .slice (some ⟨g, 0, none⟩) (k + 1) cap ∧ F + 1 ≤ g ∧ k + 1 ≤ cap ∧ OC w2 g 33 ((k + 1) * 5) (cat (k * 5) Sc (sec5 s1 s2 s3 s4)) := hor2.form.resolve_left (fun h => by have := h.2; omega); have hc2 : w2.cell? ⟨F, 1, none⟩ = some v := (by rw [cell_of_row w2 F 1 _ _ _ hfb2]; rfl); have hz2 : w2.frozen? ⟨F, 1, none⟩ = false := blk_free hfb2; have HFB2 := Lib.hid hfb2; clear hfb2; have hb2 : But [F] w0 w2 := ((hbt.trans (hb1.weak (by simp))).alloc _).grown hgr (fun g hg => .inr (by have := hrow g hg; omega))
        refine hK.out _ _ (by (try dsimp only); exact ⟨hgr.cell hHeld.1 (fun e => by have hq : F + 1 ≤ bb := hrow _ e.symm; omega), hgr.cell hHeld.2.1 (fun e => by have hq : F + 1 ≤ bb := hrow _ e.symm; omega), hgr.cell hHeld.2.2 (fun e => by have hq : F + 1 ≤ bb := hrow _ e.symm; omega)⟩) (fun hNew => ?_); clear hK K; clear hHeld; have hHeld := hNew; clear hNew
        (try simp only [Act.put, List.setIfInBounds_toArray, List.set_cons_zero, List.set_cons_succ, List.getElem_toArray, List.getElem_cons_succ, List.getElem_cons_zero])
        (refine wpAnyH_take (i := 19) (oi := _) (v := _) rfl (by decide +kernel) (by decide +kernel) (by decide +kernel) (fun _ _ _ h => h) (Or.inl ⟨by rfl, by (intro w hSw; (try dsimp only at hSw); go_simp; try with_reducible rfl)⟩) (by assumption) ?_; (try simp only [Act.put, List.setIfInBounds_toArray, List.set_cons_zero, List.set_cons_succ, List.getElem_toArray, List.getElem_cons_succ, List.getElem_cons_zero]))
        refine wpAnyH_ready (rs := [20]) (by decide +kernel) (by simp) ?_
        refine AllReadyH.cons (o := _) rfl (fun K hK => ?_) AllReadyH.nil
        go_simp
        refine hK.out _ _ (by (try dsimp only); (refine ⟨?_, ?_, ?_⟩ <;> (rw [World.cell?_setCell_far _ _ _ _ (by simp; omega)]; simp only [hHeld]))) (fun hNew => ?_); clear hK K; clear hHeld; have hHeld := hNew; clear hNew
        (try simp only [Act.put, List.setIfInBounds_toArray, List.set_cons_zero, List.set_cons_succ, List.getElem_toArray, List.getElem_cons_succ, List.getElem_cons_zero])
        refine wpAnyH_done (by decide +kernel) ?_ _
        refine NoPanic.normal ?_; (try simp only [Exit.then])
        have t7 : IntKind.i64.wrap ((k : Int) * 3 + 3) = (k : Int) * 3 + 3 := IntWalk.i64_in _ (by omega)
        go_wp2_with fail
        exact ⟨⟨k + 1, _, _, by omega, by go_num, hor2.keep ((But.refl [F] w2).setCell _ _ (.inl (by simp))) (fun g hg => by simp [Value.ownBlock] at hg; simp; omega), hpl.more f1 f2 f3 f4, blk_set _ _ _ _ _ _ HFB2.out, hb2.setCell _ _ (.inl (by simp))⟩, by simp [intOf]; omega⟩
      · have t2 : decide ((k : Int) * 3 < 12) = false := by simp; omega
        obtain ⟨A, g, c, rfl, hA, hrc, hgl, hN⟩ := hor.shape2n
        have hF0 : wr.cell? ⟨F, 0, none⟩ = some (.complex .f64 4604930618986332160 4602678819172646912) := by rw [cell_of_row wr F 0 _ _ _ HFB.out]; rfl
        have hrb := hbt.heap HRB0.out (by simp; omega)
        have hr0 : wr.cell? ⟨w.heap.size, 0, none⟩ = some (.complex .f64 0 0) := by rw [cell_of_row wr _ 0 _ _ _ hrb]; rfl
        have hr1 : wr.cell? ⟨w.heap.size, 1, none⟩ = some (.slice none 0 0) := by rw [cell_of_row wr _ 1 _ _ _ hrb]; rfl
        have hz0 : wr.frozen? ⟨w.heap.size, 0, none⟩ = false := blk_free hrb
        have hz1 : wr.frozen? ⟨w.heap.size, 1, none⟩ = false := blk_free hrb
        have HA := Lib.hid hA
        have HN := Lib.hid hN
        clear hrb hA hN
        go_wp2_with fail
        refine bodyPost_ret (v := .agg #[.complex .f64 4604930618986332160 4602678819172646912, .slice A k c]) (by simp [results, Try.results14, go_sem, *]) rfl ?_
        refine ⟨A, g, c, k, Sc, rfl, hk, HA.out, (hrc.keep ((But.refl [w.heap.size] wr).setCell _ _ (.inl (by simp))) (by simp; omega)).keep ((But.refl [w.heap.size] _).setCell _ _ (.inl (by simp))) (by simp; omega), hpl, HN.out, ?_⟩
        exact ((hbw.then hbt (fun i hi hm => by simp at hm; omega)).setCell _ _ (.inr (Nat.le_refl _))).setCell _ _ (.inr (Nat.le_refl _))
    · have t1 : decide ((k : Int) * 3 + 2 < n) = false := by simp; omega
      obtain ⟨A, g, c, rfl, hA, hrc, hgl, hN⟩ := hor.shape2n
      have hF0 : wr.cell? ⟨F, 0, none⟩ = some (.complex .f64 4604930618986332160 4602678819172646912) := by rw [cell_of_row wr F 0 _ _ _ HFB.out]; rfl
      have hrb := hbt.heap HRB0.out (by simp; omega)
      have hr0 : wr.cell? ⟨w.heap.size, 0, none⟩ = some (.complex .f64 0 0) := by rw [cell_of_row wr _ 0 _ _ _ hrb]; rfl
      have hr1 : wr.cell? ⟨w.heap.size, 1, none⟩ = some (.slice none 0 0) := by rw [cell_of_row wr _ 1 _ _ _ hrb]; rfl
      have hz0 : wr.frozen? ⟨w.heap.size, 0, none⟩ = false := blk_free hrb
      have hz1 : wr.frozen? ⟨w.heap.size, 1, none⟩ = false := blk_free hrb
      have HA := Lib.hid hA
      have HN := Lib.hid hN
      clear hrb hA hN
      go_wp2_with fail
      refine bodyPost_ret (v := .agg #[.complex .f64 4604930618986332160 4602678819172646912, .slice A k c]) (by simp [results, Try.results14, go_sem, *]) rfl ?_
      refine ⟨A, g, c, k, Sc, rfl, hk, HA.out, (hrc.keep ((But.refl [w.heap.size] wr).setCell _ _ (.inl (by simp))) (by simp; omega)).keep ((But.refl [w.heap.size] _).setCell _ _ (.inl (by simp))) (by simp; omega), hpl, HN.out, ?_⟩
      exact ((hbw.then hbt (fun i hi hm => by simp at hm; omega)).setCell _ _ (.inr (Nat.le_refl _))).setCell _ _ (.inr (Nat.le_refl _))
theorem works_any (bb bo n kb : Nat) (B : Option Addr) (w : World) (hB : 0 < n → B = some ⟨bb, bo, none⟩) (hb : R8 w bb bo n) (hn : n ≤ 9223372036854775807) :
    Calls Try.prog 14 #[.slice B n kb] w fun e w' => ∃ A fb fk m Sc, e = .returned (.agg #[.complex .f64 4604930618986332160 4602678819172646912, .slice A m fk]) ∧ m ≤ 4 ∧ (0 < m → A = some ⟨fb, 0, none⟩) ∧ RC w' fb 0 (m * 5) Sc ∧ Plain m Sc ∧ But [] w w' :=
  (works_full bb bo n kb B w hB hb hn).mono fun _ _ ⟨A, fb, fk, m, Sc, h1, h2, h3, h4, h5, _, h6⟩ => ⟨A, fb, fk, m, Sc, h1, h2, h3, h4, h5, h6⟩
end Go.Proofs.Ytnmpofjegepmaaa
