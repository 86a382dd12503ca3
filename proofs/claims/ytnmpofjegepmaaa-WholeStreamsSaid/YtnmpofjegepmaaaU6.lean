/- WholeStreams: what stands between two rounds. -/
import Derived.Test.YtnmpofjegepmaaaU4
import Derived.Test.YtnmpofjegepmaaaE5
namespace Go.Proofs.Ytnmpofjegepmaaa
open Go.RowKit Go.Shelf Go.Proofs.Ytnmpofjegepmaaa.Fl Go.Proofs.Ytnmpofjegepmaaa.Pt

/-- What was answered so far lies in v; marks lie at Ds. -/
def Gp (wB W : World) (d0 q0 b21 n : Nat) (f c m : Bool) (Sc xs : Nat → C) (a : Nat) (v : Value) (Ex Ds : List Nat) : Prop :=
  W.heap[b21]? = some (.cells #[v] 34 (0, 0)) ∧ OR W wB.heap.size 25 1 v a (qYs f c m n GN Sc (fun _ => Z0) xs) ∧ But [d0, q0, b21] wB W ∧ (∀ g, v.ownBlock = some g → g ∉ Ex) ∧ ∀ D ∈ Ds, wB.heap.size ≤ D ∧ W.heap[D]? = some (.deferred (some []))
section
variable {wB W W' : World} {d0 q0 b21 n a k : Nat} {f c m : Bool} {Sc xs : Nat → C} {v v' : Value} {Ex Ds qs : List Nat}
theorem Gp.keep (h : Gp wB W d0 q0 b21 n f c m Sc xs a v Ex Ds) (hb : But qs W W') (hq : ∀ i ∈ qs, i ∈ Ex ∧ i ∉ Ds ∧ i ≠ b21 ∧ (i < wB.heap.size → i = d0 ∨ i = q0)) : Gp wB W' d0 q0 b21 n f c m Sc xs a v Ex Ds := by
  obtain ⟨h1, h2, h3, h4, h5⟩ := h
  refine ⟨hb.heap h1 (fun hm => (hq _ hm).2.2.1 rfl), h2.keep hb (fun g hg hm => h4 g hg (hq g hm).1), h3.then hb (fun i hi hm => ?_), h4, fun D hD => ⟨(h5 D hD).1, hb.heap (h5 D hD).2 (fun hm => (hq D hm).2.1 hD)⟩⟩
  rcases (hq i hm).2.2.2 hi with rfl | rfl <;> simp
theorem Gp.new (h : Gp wB W d0 q0 b21 n f c m Sc xs a v Ex Ds) (hb : But [] W W') : Gp wB W' d0 q0 b21 n f c m Sc xs a v Ex Ds := h.keep hb (fun i hi => by simp at hi)
theorem Gp.ex (h : Gp wB W d0 q0 b21 n f c m Sc xs a v Ex Ds) {Ex' : List Nat} (he : ∀ e ∈ Ex', e ∈ Ex ∨ W.heap.size ≤ e) : Gp wB W d0 q0 b21 n f c m Sc xs a v Ex' Ds :=
  ⟨h.1, h.2.1, h.2.2.1, fun g hg hm => by
    rcases he g hm with h1 | h1
    · exact h.2.2.2.1 g hg h1
    · have := (h.2.1.lt g hg).2; omega, h.2.2.2.2⟩
theorem OR.nodef {w : World} {base t size n : Nat} {v : Value} {xs : Nat → C} (h : OR w base t size v n xs) {D : Nat} {x : Option (List Deferred)} (hD : w.heap[D]? = some (.deferred x)) : ∀ g, v.ownBlock = some g → g ≠ D := by
  rintro g hg rfl
  obtain ⟨vs, ⟨_, h1⟩, _⟩ := h
  rcases h1 with ⟨rfl, _⟩ | ⟨g', cap, cur, rfl, _, h3, _⟩
  · simp [Value.ownBlock] at hg
  · simp [Value.ownBlock] at hg
    subst hg
    rw [h3] at hD
    cases hD
theorem Gp.app (h : Gp wB W d0 q0 b21 n f c m Sc xs a v Ex Ds) (h21 : b21 < wB.heap.size) (hgr : W.grownBy W' v.ownBlock) (hor : OR W' wB.heap.size 25 1 v' (a + k) (cat (a * 1) (qYs f c m n GN Sc (fun _ => Z0) xs) (fun j => qYs f c m n GN Sc (fun _ => Z0) xs (a + j))))
    (hob : v'.ownBlock = v.ownBlock ∨ v'.ownBlock = some W.heap.size) (hEx : ∀ e ∈ Ex, e < W.heap.size) : Gp wB (W'.setCell ⟨b21, 0, none⟩ v') d0 q0 b21 n f c m Sc xs (a + k) v' Ex Ds := by
  obtain ⟨h1, h2, h3, h4, h5⟩ := h
  have hbE : But v.ownBlock.toList W W' := But.of_grown hgr
  have h1' := hbE.heap h1 (fun hm => by have := (h2.lt b21 (by simpa using hm)).1; omega)
  have hbS : But [b21] W' (W'.setCell ⟨b21, 0, none⟩ v') := (But.refl _ _).setCell _ _ (.inl (by simp))
  refine ⟨by rw [blk_set _ _ _ _ _ _ h1']; rfl, (hor.congr fun j hj => ?_).keep hbS (fun g hg => by have := (hor.lt g hg).1; simp; omega), (h3.then hbE (fun i hi hm => by have := (h2.lt i (by simpa using hm)).1; omega)).then hbS (fun i hi hm => by simp at hm; simp [hm]), fun g hg hm => ?_, fun D hD => ⟨(h5 D hD).1, hbS.heap (hbE.heap (h5 D hD).2 (fun hm => h2.nodef (h5 D hD).2 D (by simpa using hm) rfl)) (by have := (h5 D hD).1; simp; omega)⟩⟩
  · by_cases hj' : j < a * 1
    · exact cat_lt hj'
    · rw [cat_ge (by omega)]; congr 1; omega
  · rcases hob with e | e
    · exact h4 g (e ▸ hg) hm
    · rw [e] at hg; cases hg; have := hEx _ hm; omega
theorem stm_nodef {w : World} {d p q n at_ ch D : Nat} {f c m : Bool} {g : C} {Sc St : Nat → C} {x : Option (List Deferred)} (h : Stm w d p q n f c m at_ ch g Sc St) (hD : w.heap[D]? = some (.deferred x)) : D ≠ d ∧ D ≠ q := by
  obtain ⟨gr, k1, k2, hb, _⟩ := h.blk
  obtain ⟨cs, hq, _⟩ := h.sta
  refine ⟨?_, ?_⟩
  · rintro rfl; rw [hb] at hD; cases hD
  · rintro rfl; rw [hq] at hD; cases hD
end

/-- Between two rounds: at_ samples have come; a stream at d stands behind them. -/
def Lp (wB wr : World) (d0 p0 q0 b21 n : Nat) (f c m : Bool) (Sc xs : Nat → C) (at_ d p q : Nat) (v : Value) (Ds : List Nat) : Prop :=
  S0 wr d p q n f c m GN Sc xs at_ ∧ Gp wB wr d0 q0 b21 n f c m Sc xs at_ v [d, p, q] Ds ∧ (d = d0 ∨ wB.heap.size ≤ d) ∧ (p = p0 ∨ wB.heap.size ≤ p) ∧ (q = q0 ∨ wB.heap.size ≤ q) ∧ Ds.Nodup
end Go.Proofs.Ytnmpofjegepmaaa
