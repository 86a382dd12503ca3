/- The deferred closure of text.read: it recovers. -/
import Derived.Test.YtnghppgpdeghfaaGreatDoorA14
import Derived.Defers
import Derived.Recover
namespace Go.Proofs.YtnghppgpdeghfaaGreatDoor
open Go.RowKit Go.Proofs.YtnghppgpdeghfaaGreatDoor.Fl Go.Proofs.YtnghppgpdeghfaaGreatDoor.Pt Go.Proofs.YtnghppgpdeghfaaGreatDoor.Tx

/-- A region whose first operation recovers; the rest is walked as any region. -/
theorem wpS_region_rec {P : Program} {Q : Exit → Act → List Frame → World → Prop} {a : Act} {cs : List Frame} {w w' : World} {id : Nat} (o : Oper) (l : List Oper) {v : Value} {cs' : List Frame}
    (hw : Region.wanted o (yielded (o :: l).toArray a.tmps) = true) (hr : (execOp a.eval o).run P w = .ok .recover w')
    (hc : (recoverD cs = some (v, cs')) ∨ (recoverD cs = none ∧ v = .nilIface ∧ cs' = cs))
    (h : wpList P (o :: l).toArray (fun e a w => Q e a cs' w) l (a.put o.dst v) w') : (Code.region id (o :: l).toArray false).wpS P Q a cs w := by
  intro b k hb hro
  have ho : (o :: l).toArray[0]? = some o := by simp
  have hg := stepG_op (P := P) (b := b) (a := a) (k := k) (cs := cs) (w := w) (rest := List.range' 1 l.length) ho hw
  have hfin : ∀ v, (b.at a (.inRegion (o :: l).toArray (0 :: List.range' 1 l.length) :: k)).finish v = b.at (a.put o.dst v) (.inRegion (o :: l).toArray (List.range' 1 l.length) :: k) := by
    intro v; rw [Frame.finish_at, ho]; rfl
  have hk : (b.at a (.inRegion (o :: l).toArray (0 :: List.range' 1 l.length) :: k)).kind = .deferred := hb
  have htr := tryRecover_deferred hk cs
  have hL : wpOps P (o :: l).toArray (fun e a w => Q e a cs' w) (List.range' 1 l.length) (a.put o.dst v) w' := by
    rw [wpOps_eq_wpList l 1 (fun j => by simp [Nat.add_comm 1 j])]; exact h
  obtain ⟨e, a', w'', hq, harr⟩ := wp_ops _ _ _ hL b k cs'
  have hrange : List.range (o :: l).toArray.size = 0 :: List.range' 1 l.length := by
    simp [List.range_eq_range', List.range'_succ]
  refine ⟨e, a', cs', w'', hq, .of_steps (.one step_region) (.of_steps (.one ?_) harr)⟩
  rw [hrange]
  refine step_lone_go ?_
  rw [hg, ← hfin]
  simp only [Frame.at] at htr ⊢
  rcases hc with hc | ⟨hc, rfl, rfl⟩
  · simp [stepG.apply, hr, htr, hc]
  · simp [stepG.apply, hr, htr, hc]
set_option maxRecDepth 100000 in
set_option maxHeartbeats 2000000 in
theorem catch_idle (A E : Nat) (w : World) :
    CallsD Tryz.prog 46 #[.pointer (some ⟨A, 0, none⟩), .pointer (some ⟨E, 0, none⟩)] .returning w fun e u' w' => e = .returned (.tuple #[]) ∧ u' = .returning ∧ But [] w w' := by
  have hta : ∀ w : World, (Instr.typeAssert Value.nilIface 20 73 true).run Tryz.prog w = .ok (.tuple #[.agg #[.int .i64 0, .int .i64 0], .bool false]) w := fun _ => rfl
  refine callsD_of_wpS Tryz.func46 rfl fun c₀ cs hu => ?_
  refine wpS_seq (wpS_region_rec _ _ rfl rfl (.inr ⟨by simp [recoverD, hu], rfl, rfl⟩) ?_)
  go_wp2_with fail
  refine wpS_of_wp ?_
  go_wp2_with fail
  refine ⟨rfl, .returning, by rw [← hu], .tuple #[], results_none rfl _ _ _, rfl, rfl, (But.refl _ _).alloc _⟩
end Go.Proofs.YtnghppgpdeghfaaGreatDoor
