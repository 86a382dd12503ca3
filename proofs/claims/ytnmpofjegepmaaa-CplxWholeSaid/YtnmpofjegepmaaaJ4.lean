/- Maps keyed by complex numbers: a look-up, an update. -/
import Derived.Test.YtnmpofjegepmaaaJ3
import Derived.MapKept
import Derived.Carry
namespace Go.Proofs.Ytnmpofjegepmaaa
open Go.RowKit Go.Proofs.Ytnmpofjegepmaaa.Fl Go.Proofs.Ytnmpofjegepmaaa.Pt

/-- Go's '==' on complex numbers. -/
def ceq (a b : C) : Bool := Op.floatEq .f64 a.1 b.1 && Op.floatEq .f64 a.2 b.2
/-- An entry: key, value, when born. -/
abbrev Ent := C × Nat × Nat
def mkE (e : Ent) : MapEntry := { key := .complex .f64 e.1.1 e.1.2, val := .int .i64 ((e.2.1 : Nat) : Int), born := e.2.2 }
def fc (k : C) : List Ent → Nat → Option (Nat × Nat)
  | [], _ => none
  | e :: t, i => if ceq k e.1 then some (i, e.2.1) else fc k t (i + 1)
def fv (o : Option (Nat × Nat)) : Option (Nat × Value) := o.map fun p => (p.1, .int .i64 ((p.2 : Nat) : Int))

theorem run_equal_c (a b : C) (w : World) : (Op.equal 25 (.complex .f64 a.1 a.2) (.complex .f64 b.1 b.2)).run Try.prog w = .ok (ceq a b) w := by
  show (Op.equalIn (9999 + 1) 25 _ _).run Try.prog w = _
  unfold Op.equalIn
  simp [run_underlying Try.underlying25, Result.andThen, ceq]
theorem run_find_c (k : C) (w : World) (l : List Ent) : ∀ i, (Instr.findAsking 25 (.complex .f64 k.1 k.2) (l.map mkE) i).run Try.prog w = .ok (fv (fc k l i)) w := by
  induction l with
  | nil => intro i; simp [Instr.findAsking, fc, fv]
  | cons e t ih =>
    intro i
    unfold fc
    simp only [List.map_cons, Instr.findAsking, Sem.run_bind]
    rw [show (mkE e).key = .complex .f64 e.1.1 e.1.2 from rfl, run_equal_c]
    simp only [Result.andThen]
    cases h : ceq k e.1
    · simp only [Bool.false_eq_true, if_false]
      exact ih (i + 1)
    · simp [fv, mkE]
theorem run_findKey_c (k : C) (w : World) (l : List Ent) : (Instr.findKey 25 (.complex .f64 k.1 k.2) (l.map mkE)).run Try.prog w = .ok (fv (fc k l 0)) w := by
  unfold Instr.findKey
  simp only [Sem.run_bind, run_underlying Try.underlying25, Result.andThen]
  cases l with
  | nil => simp [Instr.findNow, fc, fv]
  | cons e t =>
    have : Instr.findNow (.complex .f64) (.complex .f64 k.1 k.2) ((e :: t).map mkE) 0 = none := by simp [Instr.findNow, Instr.sameNow]
    first
      | rw [this]; exact run_find_c k w (e :: t) 0
      | (simp only [this]; exact run_find_c k w (e :: t) 0)
theorem run_getm {w : World} {r clock : Nat} {es : Array MapEntry} (hb : w.heap[r]? = some (.map es clock)) : (getObj r).run Try.prog w = .ok (.map es clock) w := by
  simp [getObj, Sem.run, hb]
theorem run_setm {w : World} {r clock : Nat} {es : Array MapEntry} (o : Obj) (hb : w.heap[r]? = some (.map es clock)) : (setObj r o).run Try.prog w = .ok () { w with heap := w.heap.setIfInBounds r o } := by
  simp [setObj, Sem.run, hb]
theorem run_checkKey_c (k : C) (w : World) (e : Bool) : (Instr.checkKey e 10000 25 (.complex .f64 k.1 k.2)).run Try.prog w = .ok () w := by
  show (Instr.checkKey e (9999 + 1) 25 _).run Try.prog w = _
  unfold Instr.checkKey
  simp [run_underlying Try.underlying25, Result.andThen]
theorem run_lookup_c (k : C) (w : World) (r clock : Nat) (l : List Ent) (hb : w.heap[r]? = some (.map (l.map mkE).toArray clock)) :
    (Instr.lookup 132 (.map (some r)) (.complex .f64 k.1 k.2) false).run Try.prog w = .ok (.int .i64 ((((fc k l 0).map Prod.snd).getD 0 : Nat) : Int)) w := by
  have hz : (zeroValue 3).run Try.prog w = .ok (.int .i64 0) w := by kernel_rfl
  unfold Instr.lookup
  cases h : fc k l 0 with
  | none => simp [run_underlying Try.underlying132, run_getm hb, run_checkKey_c, run_findKey_c, h, fv, Result.andThen, hz]
  | some p => simp [run_underlying Try.underlying132, run_getm hb, run_checkKey_c, run_findKey_c, h, fv, Result.andThen]

/-- What an update leaves of the world. -/
def putM (w : World) (r : Nat) (l : List Ent) (clock : Nat) : World := { w with heap := w.heap.setIfInBounds r (.map (l.map mkE).toArray clock) }
theorem run_update_new (k : C) (w : World) (r clock v : Nat) (l : List Ent) (hb : w.heap[r]? = some (.map (l.map mkE).toArray clock)) (hn : fc k l 0 = none) :
    (Instr.mapUpdate 132 (.map (some r)) (.complex .f64 k.1 k.2) (.int .i64 ((v : Nat) : Int))).run Try.prog w = .ok () (putM w r (l ++ [(k, v, clock)]) (clock + 1)) := by
  unfold Instr.mapUpdate
  simp [run_underlying Try.underlying132, run_getm hb, run_checkKey_c, run_findKey_c, hn, fv, Result.andThen, run_setm _ hb, putM, mkE]
theorem fc_at (k : C) (l : List Ent) : ∀ (i : Nat) (p : Nat × Nat), fc k l i = some p → i ≤ p.1 ∧ ∃ e, l[p.1 - i]? = some e ∧ e.2.1 = p.2 ∧ ceq k e.1 = true := by
  induction l with
  | nil => intro i p h; cases h
  | cons e t ih =>
    intro i p h
    unfold fc at h
    cases hc : ceq k e.1
    · rw [hc] at h
      obtain ⟨h1, e', h2, h3⟩ := ih (i + 1) p h
      refine ⟨by omega, e', ?_, h3⟩
      rw [show p.1 - i = (p.1 - (i + 1)) + 1 by omega]
      exact h2
    · rw [hc] at h
      simp only [if_true, Option.some.injEq] at h
      subst h
      exact ⟨Nat.le_refl _, e, by simp, rfl, hc⟩
/-- An update of an entry that is there: which key stays is left open where the two have not the same bits. -/
theorem run_update_old (k : C) (w : World) (r clock v : Nat) (l : List Ent) (hb : w.heap[r]? = some (.map (l.map mkE).toArray clock)) (p : Nat × Nat) (hn : fc k l 0 = some p) :
    ∃ (e : Ent) (k' : C) (n : Nat), l[p.1]? = some e ∧ (k' = k ∨ k' = e.1) ∧ (Instr.mapUpdate 132 (.map (some r)) (.complex .f64 k.1 k.2) (.int .i64 ((v : Nat) : Int))).run Try.prog w = .ok () (putM (w.drewN n) r (l.set p.1 (k', v, e.2.2)) clock) := by
  obtain ⟨_, e, he, _, _⟩ := fc_at k l 0 p hn
  rw [Nat.sub_zero] at he
  have hlt : p.1 < l.length := (List.getElem?_eq_some_iff.1 he).1
  have hmod : ∀ k' : C, ((l.map mkE).toArray.modify p.1 fun e => { e with key := .complex .f64 k'.1 k'.2, val := .int .i64 ((v : Nat) : Int) }) = ((l.set p.1 (k', v, e.2.2)).map mkE).toArray := by
    intro k'
    apply Array.ext_getElem?
    intro j
    rw [Array.getElem?_modify]
    simp only [List.getElem?_toArray, List.getElem?_map, List.getElem?_set]
    by_cases hj : p.1 = j
    · subst hj
      simp [hlt, mkE, (List.getElem?_eq_some_iff.1 he).2]
    · simp [hj]
  have hold : ((((l.map mkE).toArray[p.1]?).map (·.key)).getD (.complex .f64 k.1 k.2)) = .complex .f64 e.1.1 e.1.2 := by simp [he, mkE]
  obtain ⟨k', n, hk', hrun⟩ : ∃ (k' : C) (n : Nat), (k' = k ∨ k' = e.1) ∧ (Instr.keyThatStays (.complex .f64 e.1.1 e.1.2) (.complex .f64 k.1 k.2)).run Try.prog w = .ok (.complex .f64 k'.1 k'.2) (w.drewN n) := by
    unfold Instr.keyThatStays
    cases hs : Instr.sameBits 10000 (.complex .f64 e.1.1 e.1.2) (.complex .f64 k.1 k.2)
    · obtain ⟨c, n, hc⟩ : ∃ c n, (choose (.extern "map.whichKeyStays" 2)).run Try.prog w = .ok c (w.drewN n) := by
        unfold choose Sem.run
        split
        · exact ⟨_, 0, rfl⟩
        · exact ⟨_, 1, rfl⟩
      by_cases h0 : c = 0
      · exact ⟨k, n, .inl rfl, by simp only [Bool.false_eq_true, if_false, Sem.run_bind, hc, Result.andThen, if_pos h0, Sem.run_pure]⟩
      · exact ⟨e.1, n, .inr rfl, by simp only [Bool.false_eq_true, if_false, Sem.run_bind, hc, Result.andThen, if_neg h0, Sem.run_pure]⟩
    · exact ⟨k, 0, .inl rfl, by simp; rfl⟩
  refine ⟨e, k', n, he, hk', ?_⟩
  have hb' : (w.drewN n).heap[r]? = some (.map (l.map mkE).toArray clock) := hb
  unfold Instr.mapUpdate
  simp only [Sem.run_bind, run_underlying Try.underlying132, Result.andThen, run_getm hb, run_checkKey_c, run_findKey_c, hn, fv, Option.map_some, hold, hrun]
  rw [run_setm _ hb', hmod k']
  rfl
end Go.Proofs.Ytnmpofjegepmaaa
