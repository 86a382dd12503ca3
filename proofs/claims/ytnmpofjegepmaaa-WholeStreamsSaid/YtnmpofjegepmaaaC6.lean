/- (*Cascade).States, Set, Rest. -/
import Derived.Test.YtnmpofjegepmaaaAp
import Derived.Outline
namespace Go.Proofs.Ytnmpofjegepmaaa
open Go.RowKit Go.Proofs.Ytnmpofjegepmaaa.Fl

/-- A slice value over a block that was made behind w: n elements of size cells. -/
def NewRow (w w' : World) (t size n : Nat) (xs : Nat → C) (v : Value) : Prop := ∃ b k, v = .slice (some ⟨b, 0, none⟩) n k ∧ n ≤ k ∧ w.heap.size ≤ b ∧ OC w' b t (n * size) xs

theorem newRow_of {w w' : World} {t size n : Nat} {v : Value} {xs : Nat → C} (h : OR w' w.heap.size t size v n xs) (hv : v ≠ .slice none 0 0) : NewRow w w' t size n xs v := by
  rcases h.form with ⟨h, _⟩ | ⟨g, cap, rfl, h1, h2, h3⟩
  · exact (hv h).elim
  · exact ⟨g, cap, rfl, h2, h1, h3⟩

set_option maxHeartbeats 4000000 in
set_option maxRecDepth 100000 in
theorem cstates_any (c p q n : Nat) (g : C) (Sc St : Nat → C) (w : World) (h : Cas w c p q n g Sc St) :
    Calls Try.prog 21 #[.pointer (some ⟨c, 0, none⟩)] w fun e w' => ∃ v, e = .returned v ∧ NewRow w w' 71 2 n St v ∧ But [] w w' := by
  obtain ⟨cp, cq, pq, n16, pl, ⟨gr, k1, k2, hb, hgw, hgc, hk1, hk2⟩, hsec, hsta⟩ := h
  have hc2 : ∀ o, (w.alloc o).cell? ⟨c, 2, none⟩ = some (.slice (some ⟨q, 0, none⟩) n k2) := fun o => ((But.refl [] w).alloc o).cell (by rw [cell_of_row w c 2 _ _ _ hb]; rfl) (by simp)
  have HB := Lib.hid hb
  clear hb
  have hrc := (hsta.keep ((But.refl [] w).alloc (.cells #[] 71)) (by simp)).rc
  go_enter Try.func21, Try.ntmps21
  go_wp2_with (at_builtin; refine wpList_append_rc _ rfl _ _ _ rfl w.heap.size 71 _ 2 32 Try.underlying50 Try.info71 rfl (by omega) (.slice (some ⟨w.heap.size, 0, none⟩) 0 0) 0 (fun _ => Z0) rfl (OR.empty w 71 2 _) (some ⟨q, 0, none⟩) q 0 n k2 St rfl (fun _ => rfl) hrc (by omega) (by omega) (by simp) ?_; intro v' w' hor hgr hob hnn)
  go_ret
  refine ⟨_, rfl, newRow_of (by simpa [cat_zero] using hor) (hnn (by simp)), ((But.refl _ _).alloc _).grown hgr ?_⟩
  intro g hg; simp [Value.ownBlock] at hg; exact .inr (by omega)

theorem blk_set (w : World) (c i : Nat) (cs : Array Value) (t : TypeId) (v : Value) (h : w.heap[c]? = some (.cells cs t (0, 0))) : (w.setCell ⟨c, i, none⟩ v).heap[c]? = some (.cells (cs.setIfInBounds i v) t (0, 0)) := by
  simp [World.setCell, Array.getElem?_modify, h]
theorem blk_free {w : World} {c i : Nat} {cs : Array Value} {t : TypeId} (h : w.heap[c]? = some (.cells cs t (0, 0))) : w.frozen? ⟨c, i, none⟩ = false := by simp [World.frozen?, h]

/-- The states are laid anew. -/
theorem Cas.states {w w' : World} {c p q q' n k : Nat} {g : C} {Sc St Su : Nat → C} (h : Cas w c p q n g Sc St) (k1 : But [c] w w') (hblk : ∀ gr a b, w.heap[c]? = some (.cells #[gr, a, b] 104 (0, 0)) → w'.heap[c]? = some (.cells #[gr, a, .slice (some ⟨q', 0, none⟩) n k] 104 (0, 0))) (hk : n ≤ k) (h1 : w.heap.size ≤ q') (ho : OC w' q' 71 (n * 2) Su) : Cas w' c p q' n g Sc Su := by
  have hcl := h.cl
  have hpl := h.pl
  obtain ⟨gr, k1', k2, hb, hgw, hgc, hk1, hk2⟩ := h.blk
  exact ⟨h.cp, by omega, by omega, h.n16, Nat.lt_of_lt_of_le hpl k1.size, ⟨gr, k1', k, hblk _ _ _ hb, hgw, hgc, hk1, hk⟩, h.sec.keep k1 (by simpa using h.cp.symm), ho⟩

set_option maxHeartbeats 4000000 in
set_option maxRecDepth 100000 in
theorem cset_any (c p q n lb lo mk : Nat) (A : Option Addr) (hA : 0 < n → A = some ⟨lb, lo, none⟩) (g : C) (Sc St Su : Nat → C) (w : World) (h : Cas w c p q n g Sc St) (hl : RC w lb lo (n * 2) Su) :
    Calls Try.prog 22 #[.pointer (some ⟨c, 0, none⟩), .slice A n mk] w fun e w' => e = .returned (.int .i64 0) ∧ ∃ q', w.heap.size ≤ q' ∧ Cas w' c p q' n g Sc Su ∧ But [c] w w' := by
  have H := Lib.hid h
  have hcl := h.cl
  have n16 := h.n16
  obtain ⟨gr, k1, k2, hb, hgw, hgc, hk1, hk2⟩ := h.blk
  have hc1 : w.cell? ⟨c, 1, none⟩ = some (.slice (some ⟨p, 0, none⟩) n k1) := by rw [cell_of_row w c 1 _ _ _ hb]; rfl
  have HB := Lib.hid hb
  clear hb h
  have hrc := hl.keep ((But.refl [] w).alloc (.cells #[] 71)) (by simp)
  have HA := Lib.hid hA
  clear hA
  go_enter Try.func22, Try.ntmps22
  go_wp2_with (at_builtin; refine wpList_append_rc _ rfl _ _ _ rfl w.heap.size 71 _ 2 32 Try.underlying50 Try.info71 rfl (by omega) (.slice (some ⟨w.heap.size, 0, none⟩) 0 0) 0 (fun _ => Z0) rfl (OR.empty w 71 2 _) A lb lo n mk Su rfl HA.out hrc (by omega) (by omega) (by simp) ?_; intro v' w' hor hgr hob hnn; have hbut : But [] w w' := ((But.refl _ _).alloc _).grown hgr (fun g hg => by simp [Value.ownBlock] at hg; exact .inr (by omega)); obtain ⟨b, kb, rfl, hkb, hbl, hoc⟩ := newRow_of (by simpa [cat_zero] using hor) (hnn (by simp)); have HB1 := Lib.hid (hbut.heap HB.out (by simp)); have hc2 : w'.cell? ⟨c, 2, none⟩ = some (.slice (some ⟨q, 0, none⟩) n k2) := by { rw [cell_of_row w' c 2 _ _ _ HB1.out]; rfl }; have hfz : w'.frozen? ⟨c, 2, none⟩ = false := blk_free HB1.out; clear hor hgr hob hnn)
  go_ret
  refine ⟨rfl, b, hbl, H.out.states ((hbut.weak (by simp)).setCell _ _ (.inl (by simp))) (fun gr a b' hb => ?_) hkb hbl (hoc.keep ((But.refl [c] w').setCell _ _ (.inl (by simp))) (by simp; omega)), (hbut.weak (by simp)).setCell _ _ (.inl (by simp))⟩
  rw [blk_set _ _ _ _ _ _ (hbut.heap hb (by simp))]; rfl

set_option maxHeartbeats 4000000 in
set_option maxRecDepth 100000 in
theorem crest_raw (c p n k1 : Nat) (gr : C) (X : Value) (w : World) (n16 : n ≤ 16) (hb : w.heap[c]? = some (.cells #[V gr, .slice (some ⟨p, 0, none⟩) n k1, X] 104 (0, 0))) :
    Calls Try.prog 25 #[.pointer (some ⟨c, 0, none⟩)] w fun e w' => e = .returned (.tuple #[]) ∧ But [c] w w' ∧ w'.heap[c]? = some (.cells #[V gr, .slice (some ⟨p, 0, none⟩) n k1, .slice (some ⟨w.heap.size, 0, none⟩) n n] 104 (0, 0)) ∧ OC w' w.heap.size 71 (n * 2) (fun _ => Z0) := by
  have hcl : c < w.heap.size := (Array.getElem?_eq_some_iff.1 hb).1
  have hc1 : w.cell? ⟨c, 1, none⟩ = some (.slice (some ⟨p, 0, none⟩) n k1) := by rw [cell_of_row w c 1 _ _ _ hb]; rfl
  have hmk : ∀ W : World, (Instr.makeSlice 50 (.int .i64 (n : Int)) (.int .i64 (n : Int))).run Try.prog W = .ok (.slice (some ⟨W.heap.size, 0, none⟩) n n) (W.alloc (.cells (madeCells #[.complex .f64 0 0, .complex .f64 0 0] (n * 2)) 71)) := by
    intro W
    obtain ⟨i, hi, hz, hs, hby⟩ := info_parts Try.info71
    have hr := run_make (P := Try.prog) W 50 71 i _ Try.underlying50 hi hz .i64 .i64 n n (by omega) (Int.le_refl _) (by rw [hby]; omega) (by omega)
    rw [hs] at hr
    exact hr
  have hex : ∃ w1, w.alloc (.cells (madeCells #[.complex .f64 0 0, .complex .f64 0 0] (n * 2)) 71) = w1 ∧ But [] w w1 ∧ OC w1 w.heap.size 71 (n * 2) (fun _ => Z0) ∧ w1.cell? ⟨c, 2, none⟩ = some X ∧ w1.frozen? ⟨c, 2, none⟩ = false :=
    ⟨_, rfl, (But.refl _ _).alloc _, zeros_oc w 71 (n * 2) (.inr rfl), by rw [cell_of_row _ c 2 _ _ _ (((But.refl [] w).alloc _).heap hb (by simp))]; rfl, blk_free (((But.refl [] w).alloc _).heap hb (by simp))⟩
  obtain ⟨w1, hw1, hb1, hoc, hc2, hfz⟩ := hex
  have hmk' := hmk w
  rw [hw1] at hmk'
  clear hmk
  have HB := Lib.hid hb
  clear hb hw1
  go_enter Try.func25, Try.ntmps25
  go_wp2
  go_end0
  refine ⟨rfl, (hb1.weak (by simp)).setCell _ _ (.inl (by simp)), ?_, hoc.keep ((But.refl [c] w1).setCell _ _ (.inl (by simp))) (by simp; omega)⟩
  rw [blk_set _ _ _ _ _ _ (hb1.heap HB.out (by simp))]; rfl

theorem crest_any (c p q n : Nat) (g : C) (Sc St : Nat → C) (w : World) (h : Cas w c p q n g Sc St) :
    Calls Try.prog 25 #[.pointer (some ⟨c, 0, none⟩)] w fun e w' => e = .returned (.tuple #[]) ∧ ∃ q', w.heap.size ≤ q' ∧ Cas w' c p q' n g Sc (fun _ => Z0) ∧ But [c] w w' := by
  have hcl := h.cl
  have hpl := h.pl
  obtain ⟨gr, k1, k2, hb, hgw, hgc, hk1, hk2⟩ := h.blk
  refine (crest_raw c p n k1 gr _ w h.n16 hb).mono fun e w' ⟨h1, h2, h3, h4⟩ => ⟨h1, w.heap.size, Nat.le_refl _, ?_, h2⟩
  exact ⟨h.cp, by omega, by omega, h.n16, Nat.lt_of_lt_of_le hpl h2.size, ⟨gr, k1, n, h3, hgw, hgc, hk1, Nat.le_refl _⟩, h.sec.keep h2 (by simpa using h.cp.symm), h4⟩
end Go.Proofs.Ytnmpofjegepmaaa
