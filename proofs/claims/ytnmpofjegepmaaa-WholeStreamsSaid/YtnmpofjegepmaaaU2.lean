/- A range over a stream's iterator; (*Stream).Push. -/
import Derived.Test.YtnmpofjegepmaaaU1
namespace Go.Proofs.Ytnmpofjegepmaaa
open Go.RowKit Go.Shelf Go.Proofs.Ytnmpofjegepmaaa.Fl Go.Proofs.Ytnmpofjegepmaaa.Pt

/-- A body of a loop that goes on. -/
def goesOn (R : World → Prop) : Exit → Act → World → Prop
  | .normal, _, W' => R W'
  | _, _, _ => False
theorem But.put (qs : List Nat) (W : World) (l : Nat) (o : Obj) (hl : l ∈ qs) : But qs W (W.putObj l o) :=
  ⟨rfl, rfl, rfl, by simp, fun i hi hq => World.putObj_heap_other (by rintro rfl; exact hq hl)⟩

/-- 'for j, y := range s.Seq(list) { .. }', whose body writes neither the stream nor the iterator's own. -/
theorem rf_seq {F : Fence} {n : Nat} {gv : Operand} {ps : Array Tmp} {assign body : Code} {Q : Exit → Act → World → Prop} {a : Act} {w : World}
    (hro : F.round = none) (hn : 3 ≤ n) (h85 : F.fn 85) (h86 : F.fn 86) (hlift : ∀ f a w R, Calls Try.prog f a w R → ∀ k, CallsIn F k Try.prog f a w R)
    (d p q nn m bS bL LL kk : Nat) (f c mu : Bool) (at_ ch : Nat) (g : C) (Sc St xs : Nat → C)
    (hg : a.eval gv = .func (.func 85) #[] #[.pointer (some ⟨bS, 0, none⟩), .pointer (some ⟨bL, 0, none⟩)]) (hps : ps.size = 2)
    (hat : at_ < 18446744073709551616) (hch : ch < 18446744073709551616) (hm : m ≤ 1000000)
    (hst : Stm w d p q nn f c mu at_ ch g Sc St) (hS : w.cell? ⟨bS, 0, none⟩ = some (.pointer (some ⟨d, 0, none⟩))) (hL : w.cell? ⟨bL, 0, none⟩ = some (.slice (some ⟨LL, 0, none⟩) m kk)) (hxs : RC w LL 0 m xs) (hLL : LL < w.heap.size)
    (hne : (bS ≠ d ∧ bS ≠ q) ∧ (bL ≠ d ∧ bL ≠ q) ∧ LL ≠ d ∧ LL ≠ q)
    (I : Nat → World → Prop) (hI : ∀ k A B, I k A → But [d, q, w.heap.size, w.heap.size + 1] A B → I k B) (h0 : I 0 w) (ax : Nat → C → Act)
    (hassign : ∀ (l k : Nat) (y : C) (W : World) (K : Act → World → Prop), K (ax k y) W →
      assign.wpIn (F.inRound l) (n - 1 - 1) Try.prog (Exit.then K (fun _ _ _ => False)) { tmps := (ps.zip #[Value.int .i64 (k : Int), .complex .f64 y.1 y.2]).foldl (fun t (p, v) => t.setIfInBounds p v) a.tmps, defers := [] } W)
    (hbody : ∀ (l k : Nat) (y : C) (W : World), I k W → k < m → wf y → ccn y = qYs f c mu nn g Sc St xs k → w.heap.size + 2 ≤ W.heap.size →
      body.wpIn (F.inRound l) (n - 1 - 1) Try.prog (goesOn fun W' => I (k + 1) W' ∧ (∀ i, i ∈ [d, p, q, bS, bL, LL, w.heap.size, w.heap.size + 1] → W'.heap[i]? = W.heap[i]?) ∧ W.heap.size ≤ W'.heap.size) (ax k y) W)
    (hdone : ∀ W : World, I m W → Stk W d p q nn f c mu at_ ch g Sc St xs m → W.heap[w.heap.size]? = some (.deferred (some [])) → w.heap.size + 2 ≤ W.heap.size →
      Q .normal { a with defers := { target := .collected w.heap.size, args := #[] } :: a.defers } W) :
    (Code.rangeFunc gv ps assign body).wpIn F n Try.prog Q a w := by
  refine wpIn_rangeFunc ?_
  intro fn hfn
  rw [hro]
  obtain ⟨rec, hrec⟩ : ∃ rec : LoopState → Option Code → Loop, rec = fun st pe => { state := st, pending := pe, fn, tmps := a.tmps, params := ps, assign, body, defers := w.heap.size } := ⟨_, rfl⟩
  obtain ⟨W1, hW1⟩ : ∃ W1, (w.alloc (.deferred (some []))).alloc (.loop (rec .ready none)) = W1 := ⟨_, rfl⟩
  have hL1 : W1.heap[w.heap.size + 1]? = some (.loop (rec .ready none)) := by
    rw [← hW1]; have := World.alloc_heap_new (w.alloc (.deferred (some []))) (.loop (rec .ready none)); rwa [World.size_alloc] at this
  have hK1 : W1.heap[w.heap.size]? = some (.deferred (some [])) := by
    rw [← hW1]; exact (Below.heap_alloc _ _ _ (by simp)).trans (World.alloc_heap_new w _)
  have hb1 : But [] w W1 := by rw [← hW1]; exact ((But.refl [] w).alloc _).alloc _
  have hI1 : I 0 W1 := hI 0 w W1 h0 (by rw [← hW1]; exact ((But.refl _ w).alloc _).alloc _)
  have hdl := hst.dl
  have hql := hst.ql
  have hpl := hst.pl
  have hSl := World.block_lt_of_cell? w _ hS
  have hLl := World.block_lt_of_cell? w _ hL
  simp only at hSl hLl
  refine ⟨w.heap.size + 1, [{ target := .collected w.heap.size, args := #[] }], W1, { target := .fn (.func 85) #[.pointer (some ⟨bS, 0, none⟩), .pointer (some ⟨bL, 0, none⟩)], args := #[.func (.yield (w.heap.size + 1)) #[] #[]] }, W1, 85,
    #[.func (.yield (w.heap.size + 1)) #[] #[]] ++ #[.pointer (some ⟨bS, 0, none⟩), .pointer (some ⟨bL, 0, none⟩)], W1, ?_, ?_, ?_, ?_, fun _ => by omega, ?_⟩
  · rw [← hW1, hrec]; exact run_enterLoop_outer _ _ _ _ _
  · simp only [resolve, hg]
    simp [go_sem]
  · intro f' hf'; simp [Target.leads] at hf'; subst hf'; exact h85
  · have eg : ∀ args w, (callFunc 85 args).run Try.prog w = .ok (.enter 85 args) w := enters_of Try.func85 (by kernel_rfl) rfl
    simp [invoke, go_sem, eg]
  · refine (seq1_in F (n - 1) h85 h86 hro (by omega) hlift (w.heap.size + 1) d p q nn m bS bL LL kk f c mu at_ ch hat hch g Sc St xs hm
      (fun k W => I k W ∧ W.heap[w.heap.size + 1]? = some (.loop (rec .ready none)) ∧ W.heap[w.heap.size]? = some (.deferred (some [])))
      (fun k A B hs hb => ⟨hI k A B hs.1 (hb.weak fun i _ hi => by simp at hi ⊢; rcases hi with rfl | rfl <;> simp), hb.heap hs.2.1 (by simp; omega), hb.heap hs.2.2 (by simp; omega)⟩)
      ?_ W1 (hst.keep hb1 (by simp) (by simp) (by simp)) (hb1.cell hS (by simp)) (hb1.cell hL (by simp)) (hxs.keep hb1 (by simp)) hne ⟨hI1, hL1, hK1⟩).mono ?_
    · rintro k y W ⟨hi, hl, hk⟩ hlt hyw hye
      have hlW : w.heap.size + 1 < W.heap.size := (Array.getElem?_eq_some_iff.1 hl).1
      have hy := run_yield (P := Try.prog) (args := #[Value.int .i64 (k : Int), .complex .f64 y.1 y.2]) hl (by rw [hrec]; exact hps.symm)
      rw [hrec] at hy
      refine ⟨fn, _, assign, body, hy, roundIn_of_wpIn hfn (hassign _ k y W _ ⟨_, run_beginRound hl (by rw [hrec]), ?_⟩)⟩
      have hl2 : (W.putObj (w.heap.size + 1) (.loop { rec .ready none with state := .busy })).heap[w.heap.size + 1]? = some (.loop { rec .ready none with state := .busy }) := World.putObj_heap_same hlW
      have hk2 : (W.putObj (w.heap.size + 1) (.loop { rec .ready none with state := .busy })).heap[w.heap.size]? = some (.deferred (some [])) := (World.putObj_heap_other (by omega)).trans hk
      refine wpIn_mono (hbody _ k y _ (hI k _ _ hi (But.put _ _ _ _ (by simp))) hlt hyw hye (by simp; omega)) ?_
      rintro e a3 W3 hp
      cases e with
      | normal =>
        obtain ⟨hi3, hsm, hsz⟩ := hp
        have hl3 := (hsm (w.heap.size + 1) (by simp)).trans hl2
        have hk3 := (hsm w.heap.size (by simp)).trans hk2
        have hlW3 : w.heap.size + 1 < W3.heap.size := (Array.getElem?_eq_some_iff.1 hl3).1
        have hr := run_endRound (P := Try.prog) none hl3
        refine ⟨_, _, hr, rfl, ⟨hI (k + 1) _ _ hi3 (But.put _ _ _ _ (by simp)), ?_, (World.putObj_heap_other (by omega)).trans hk3⟩, fun i hi => ?_, ?_⟩
        · rw [World.putObj_heap_same hlW3, hrec]; rfl
        · have hil : i ≠ w.heap.size + 1 := by simp at hi; rcases hi with rfl | rfl | rfl | rfl | rfl | rfl <;> omega
          exact (World.putObj_heap_other hil).trans ((hsm i (by simp at hi ⊢; rcases hi with h | h | h | h | h | h <;> simp [h])).trans (World.putObj_heap_other hil))
        · rw [World.putObj_size]; rw [World.putObj_size] at hsz; exact hsz
      | ret => exact hp.elim
      | exit id => exact hp.elim
      | goto t => exact hp.elim
      | panic ch => exact hp.elim
      | outgrown => exact hp.elim
    · rintro e W2 ⟨⟨v, rfl⟩, ⟨hi, hl, hk⟩, hsk⟩
      have hlW2 : w.heap.size + 1 < W2.heap.size := (Array.getElem?_eq_some_iff.1 hl).1
      have hend := run_endLoop (P := Try.prog) hl (by rw [hrec]; simp)
      have hbp : ∀ qs : List Nat, w.heap.size + 1 ∈ qs → ∀ o, But qs W2 (W2.putObj (w.heap.size + 1) o) := fun qs h o => But.put _ _ _ _ h
      have hpend : (rec .ready none).pending = none := by rw [hrec]
      rw [hpend] at hend
      refine ⟨none, _, hend, hdone _ (hI m _ _ hi (hbp _ (by simp) _)) ?_ ((World.putObj_heap_other (by omega)).trans hk) (by rw [World.putObj_size]; omega)⟩
      exact Stm.keep hsk (hbp [w.heap.size + 1] (by simp) _) (by simp; omega) (by simp; omega) (by simp; omega)

theorem wpListIn_append_rc {F : Fence} {n : Nat} (w : World) {ops : Array Oper} {rest : List Oper} {o : Oper} {a : Act} {Q : Exit → Act → World → Prop} (hgd : o.guard = none) (s x : Operand) (t : TypeId)
    (ho : o.op = .call { callee := .builtin .append, args := #[s, x], argTypes := #[t, t] })
    (base : Nat) (e : TypeId) (z : Value) (size bytes : Nat) (ht : Try.prog.underlying t = some (.slice e)) (hinf : (Try.prog.info? e).map (fun i => (i.zero, i.size, i.bytes)) = some (some z, size, bytes))
    (hzs : z.cells.size = size) (hsz : 0 < size) (v : Value) (k : Nat) (xs : Nat → C) (hs : a.eval s = v) (hown : OR w base e size v k xs)
    (A : Option Addr) (b ob m c : Nat) (ys : Nat → C) (hx : a.eval x = .slice A m c) (hA : 0 < m → A = some ⟨b, ob, none⟩) (hr : RC w b ob (m * size) ys)
    (hbytes : (k + m) * bytes ≤ 140737488355328) (h63 : k + m ≤ 140737488355328) (hbase : base ≤ w.heap.size)
    (h : ∀ v' w', OR w' base e size v' (k + m) (cat (k * size) xs ys) → w.grownBy w' v.ownBlock → (v'.ownBlock = v.ownBlock ∨ v'.ownBlock = some w.heap.size) → (v ≠ .slice none 0 0 → v' ≠ .slice none 0 0) → wpListIn F n Try.prog ops Q rest (a.put o.dst v') w') : wpListIn F n Try.prog ops Q (o :: rest) a w := by
  refine wpListIn_plain hgd fun K hK' => ?_
  obtain ⟨v', w', hrun, r1, r2, r3, r4⟩ := run_append_rc (P := Try.prog) w base t o.type e z size bytes ht hinf hzs hsz v k xs hown A b ob m c ys hA hr hbytes h63 hbase
  unfold Oper.wpIn
  refine ⟨?_, ?_⟩
  · simp [Oper.about, ho, resolve, Target.leads, Sem.run_pure]
  · rw [Oper.semAt_plain F _ _ (by rw [ho]; intro c hc'; cases hc')]
    simp [execOp, ho, resolve, invoke, builtin, hs, hx, hrun, Result.andThen]
    exact hK' _ _ (h v' w' r1 r2 r3 r4)
end Go.Proofs.Ytnmpofjegepmaaa
