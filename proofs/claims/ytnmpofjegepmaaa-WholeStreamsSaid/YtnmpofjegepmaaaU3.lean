/- (*Stream).Push. -/
import Derived.Test.YtnmpofjegepmaaaU2
import Derived.Test.YtnmpofjegepmaaaT9
namespace Go.Proofs.Ytnmpofjegepmaaa
open Go.RowKit Go.Shelf Go.Proofs.Ytnmpofjegepmaaa.Fl Go.Proofs.Ytnmpofjegepmaaa.Pt
attribute [local go_sem] Oper.semAt_some

set_option linter.unusedSimpArgs false in
set_option maxHeartbeats 1000000 in
set_option maxRecDepth 100000 in
theorem spush_in (F : Fence) (n : Nat) (hro : F.round = none) (hn : 4 ≤ n) (h42 : F.fn 42) (h43 : F.fn 43) (h85 : F.fn 85) (h86 : F.fn 86) (hlift : ∀ f a w R, Calls Try.prog f a w R → ∀ k, CallsIn F k Try.prog f a w R)
    (d p q nn m lb lo mk : Nat) (A : Option Addr) (hA : 0 < m → A = some ⟨lb, lo, none⟩) (f c mu : Bool) (at_ ch : Nat) (hat : at_ < 18446744073709551616) (hch : ch < 18446744073709551616) (hm : m ≤ 100000) (g : C) (Sc St xs : Nat → C)
    (w : World) (hst : Stm w d p q nn f c mu at_ ch g Sc St) (hxs : RC w lb lo m xs) :
    CallsIn F n Try.prog 42 #[.pointer (some ⟨d, 0, none⟩), .slice A m mk] w fun e w' => ∃ LA bb kk, e = .returned (.slice LA m kk) ∧ (0 < m → LA = some ⟨bb, 0, none⟩) ∧ RC w' bb 0 m (qYs f c mu nn g Sc St xs) ∧ w.heap.size ≤ bb ∧ Stk w' d p q nn f c mu at_ ch g Sc St xs m ∧ But [d, q] w w' := by
  have hn1 : 1 ≤ n := by omega
  have HLI := Lib.hid hlift
  have HA := Lib.hid hA
  clear hlift hA
  obtain ⟨w0, hw0, hb0, ho0⟩ : ∃ w0, w.alloc (.cells #[.slice none 0 0] 34) = w0 ∧ But [] w w0 ∧ w0.heap[w.heap.size]? = some (.cells #[.slice none 0 0] 34 (0, 0)) := ⟨_, rfl, (But.refl _ _).alloc _, heap_alloc_new w _⟩
  have hx0 := hxs.keep hb0 (by simp)
  refine callsIn_of_wp_marks Try.func42 rfl h42 ?_ hro
  simp only [Try.ntmps42, List.size_toArray, List.length_cons, List.length_nil, Nat.reduceAdd, Nat.reduceSub, Array.replicate_succ, Array.replicate_zero, List.push_toArray, List.append_toArray, List.nil_append, List.cons_append]
  gi_wp2_with (gi_at_call 43; refine (HLI.out _ _ _ _ (sseq_any d lb lo m mk A HA.out (by omega) xs w0 hx0) _).mono ?_; rintro e w1 ⟨bS, bL, LL, kk, rfl, gS, gL, gLL, cS, cL, hx1, hb1, hLL⟩)
  have hs0 := hb0.size
  have hs1 := hb1.size
  have hdl := hst.dl
  have hql := hst.ql
  have hpl := hst.pl
  have hb01 := hb0.trans hb1
  have ho1 := hb1.heap ho0 (by simp)
  have hol : w.heap.size < w0.heap.size := (Array.getElem?_eq_some_iff.1 ho0).1
  refine rf_seq hro (by omega) h85 h86 HLI.out d p q nn m bS bL LL kk f c mu at_ ch g Sc St xs rfl rfl hat hch (by omega) (hst.keep hb01 (by simp) (by simp) (by simp)) cS cL hx1 hLL ⟨⟨by omega, by omega⟩, ⟨by omega, by omega⟩, by omega, by omega⟩
    (fun k W => ∃ v, W.heap[w.heap.size]? = some (.cells #[v] 34 (0, 0)) ∧ OR W (w1.heap.size + 2) 25 1 v k (qYs f c mu nn g Sc St xs) ∧ But [d, q] w W) ?hI ⟨_, ho1, OR.nil _ _ _ _ _, hb01.weak (by simp)⟩
    (fun k y => { tmps := #[.pointer (some ⟨d, 0, none⟩), .slice A m mk, undef, undef, .slice none 0 0, .pointer (some ⟨w.heap.size, 0, none⟩), undef, .complex .f64 y.1 y.2, .pointer (some ⟨d, 0, none⟩), .slice A m mk, .func (.func 85) #[] #[.pointer (some ⟨bS, 0, none⟩), .pointer (some ⟨bL, 0, none⟩)], .int .i64 (k : Int), .complex .f64 y.1 y.2, undef, undef, undef, undef, undef], defers := [] }) ?assign ?body ?done
  case hI =>
    rintro k X Y ⟨v, hv, hor, hbw⟩ hb
    refine ⟨v, hb.heap hv (by simp; omega), hor.keep hb (fun g hg => by have := (hor.lt g hg).1; simp; omega), hbw.then hb (fun i hi hm => by simp at hm ⊢; omega)⟩
  case assign =>
    intro l k y W K hK
    gi_wp2
    exact hK
  case body =>
    rintro l k y W ⟨v, hv, hor, hbw⟩ hlt hyw hye hsz
    have x0 : W.cell? ⟨w.heap.size, 0, none⟩ = some v := by rw [cell_of_row W w.heap.size 0 _ _ _ hv]; rfl
    have HY := Lib.hid hye
    have HV := Lib.hid hv
    have hvb : ∀ g, v.ownBlock = some g → w1.heap.size + 2 ≤ g := fun g hg => (hor.lt g hg).1
    have hrc : RC (W.alloc (.cells #[.complex .f64 y.1 y.2] 25)) W.heap.size 0 (1 * 1) (fun _ => qYs f c mu nn g Sc St xs k) := one_rc W y.1 y.2 _ hyw hye
    clear hye hv
    gi_wp2_with (gi_at_builtin; refine wpListIn_append_rc _ rfl _ _ _ rfl (w1.heap.size + 2) 25 _ 1 16 Try.underlying34 Try.info25 rfl (by omega) v k (qYs f c mu nn g Sc St xs) rfl (hor.alloc _) (some ⟨W.heap.size, 0, none⟩) W.heap.size 0 1 1 (fun _ => qYs f c mu nn g Sc St xs k) rfl (fun _ => rfl) hrc (by omega) (by omega) (by simp; omega) ?_; intro v' w2 hor2 hgr hob hnn; have hb2 : But v.ownBlock.toList W w2 := ((But.refl _ W).alloc _).grown hgr (fun g hg => .inl (by simp [hg])); have hv2 := hb2.heap HV.out (fun h => by have := hvb _ (by simpa using h); omega); have x2 := (cell_of_row w2 w.heap.size 0 _ _ _ hv2).trans (c := some v) rfl; have z2 := blk_free (i := 0) hv2; obtain ⟨g', c', rfl⟩ := or_slice hor2 (by omega))
    have hb3 : But [w.heap.size] w2 (w2.setCell ⟨w.heap.size, 0, none⟩ (.slice (some ⟨g', 0, none⟩) (k + 1) c')) := (But.refl _ _).setCell _ _ (.inl (by simp))
    refine ⟨⟨_, by rw [blk_set _ _ _ _ _ _ hv2]; rfl, (hor2.congr (ys := qYs f c mu nn g Sc St xs) (fun j hj => ?_)).keep hb3 (fun g hg => by have := (hor2.lt g hg).1; simp; omega), (hbw.then hb2 (fun i hi hm => by have := hvb i (by simpa using hm); omega)).then hb3 (fun i hi hm => by simp at hm; omega)⟩, fun i hi => ?_, Nat.le_trans hb2.size hb3.size⟩
    · unfold cat
      split
      · rfl
      · have : j = k := by omega
        subst this; rfl
    · have hi' : i < w1.heap.size + 2 ∧ i ≠ w.heap.size := by simp at hi; have hSl := World.block_lt_of_cell? w1 _ cS; have hLl := World.block_lt_of_cell? w1 _ cL; simp only at hSl hLl; omega
      exact (hb3.block i (by have := hb2.size; omega) (by simp; omega)).trans (hb2.block i (by omega) (fun h => by have := hvb i (by simpa using h); omega))
  case done =>
    rintro W ⟨v, hv, hor, hbw⟩ hsk hK hsz
    have x0 : W.cell? ⟨w.heap.size, 0, none⟩ = some v := by rw [cell_of_row W w.heap.size 0 _ _ _ hv]; rfl
    gi_wp2
    refine ⟨by simp, .inl ⟨_, _, rfl, run_takeDeferred hK, ?_⟩⟩
    have hbp := But.put [w1.heap.size] W w1.heap.size (.deferred none) (by simp)
    obtain ⟨LA, bb, k9, rfl, hLA, hbb, hrc⟩ : ∃ LA bb k9, v = .slice LA m k9 ∧ (0 < m → LA = some ⟨bb, 0, none⟩) ∧ w1.heap.size + 2 ≤ bb ∧ RC W bb 0 m (qYs f c mu nn g Sc St xs) := by
      rcases hor.form with ⟨rfl, h0⟩ | ⟨g', c', rfl, h1, _, h2⟩
      · subst h0
        exact ⟨none, w1.heap.size + 2, 0, rfl, fun h => by omega, Nat.le_refl _, fun j hj => by omega⟩
      · exact ⟨_, g', c', rfl, fun _ => rfl, h1, (by rw [Nat.mul_one] at h2; exact h2.rc)⟩
    exact ⟨_, results_tmp rfl _ _ _, LA, bb, k9, rfl, hLA, hrc.keep hbp (by simp; omega), by omega, Stm.keep hsk hbp (by simp; omega) (by simp; omega) (by simp; omega), hbw.then hbp (fun i hi hm => by simp at hm; omega)⟩
theorem spush_any (d p q nn m lb lo mk : Nat) (A : Option Addr) (hA : 0 < m → A = some ⟨lb, lo, none⟩) (f c mu : Bool) (at_ ch : Nat) (hat : at_ < 18446744073709551616) (hch : ch < 18446744073709551616) (hm : m ≤ 100000) (g : C) (Sc St xs : Nat → C)
    (w : World) (hst : Stm w d p q nn f c mu at_ ch g Sc St) (hxs : RC w lb lo m xs) :
    Calls Try.prog 42 #[.pointer (some ⟨d, 0, none⟩), .slice A m mk] w fun e w' => ∃ LA bb kk, e = .returned (.slice LA m kk) ∧ (0 < m → LA = some ⟨bb, 0, none⟩) ∧ RC w' bb 0 m (qYs f c mu nn g Sc St xs) ∧ w.heap.size ≤ bb ∧ Stk w' d p q nn f c mu at_ ch g Sc St xs m ∧ But [d, q] w w' :=
  (callsIn_wide (n := 4)).1 (spush_in Fence.wide 4 rfl (by omega) trivial trivial trivial trivial (fun _ _ _ _ h _ => callsIn_wide.2 h) d p q nn m lb lo mk A hA f c mu at_ ch hat hch hm g Sc St xs w hst hxs)
end Go.Proofs.Ytnmpofjegepmaaa
