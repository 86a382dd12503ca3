/- How arguments are opened: rows of integers, rows of arrays of integers. -/
import Derived.Test.YtnmpofjegepmaaaRows
import Derived.WalkKit
import Derived.ProofKit
import Derived.OpenShut
import Derived.ShutString
import Derived.ChangeOld
import Derived.Below
import Derived.Deep.Slices
namespace Go.Proofs.Ytnmpofjegepmaaa
open Go.ChangeShapes Go.WideShapes Go.ChangeAt Go.RowKit Go.Deep

theorem Try.own : ownKnob Try.prog.godebug = none := by kernel_rfl
theorem Try.laidOut : laidOutB Try.prog = true := by kernel_rfl

/-- A row of m integers of kind k at place o of block b. -/
def RI (w : World) (k : IntKind) (b o m : Nat) : Prop := ∀ j, j < m → ∃ x : Int, w.cell? ⟨b, o + j, none⟩ = some (.int k x) ∧ (Lit.int k x).wf = true

section
variable {H : Type} {enc : TypeId × Value → H} {P : Program} {w : World} {base : Nat} {spare : Nat → Bool} {held : Bool}
/-- A slice of integers. -/
theorem open_ri {t e : TypeId} {k : IntKind} {a0 : Option Addr} {n0 c0 : Nat} {x : DataW H} {p : List MemPlace} (ht : P.underlying t = some (.slice e)) (he : P.underlying e = some (.int k)) (hc : P.cellsOf e = 1)
    (h : DataW.Trod enc P w base spare held t (.slice a0 n0 c0) x p) : ∃ b o, (0 < n0 → a0 = some ⟨b, o, none⟩) ∧ RI w k b o n0 ∧ n0 ≤ maxLen := by
  obtain ⟨fuel, hf⟩ := h
  rcases open_ints ht he hc hf with ⟨hcs, _⟩ | ⟨a, l, c, zs, hcs, _, hl, hm, hz, _, hcell, hwz⟩
  · simp [Value.cells] at hcs
    obtain ⟨rfl, rfl, rfl⟩ := hcs
    exact ⟨0, 0, fun h => by omega, fun j hj => by omega, by simp [maxLen]⟩
  · simp [Value.cells] at hcs
    obtain ⟨rfl, rfl, rfl⟩ := hcs
    have hlz : n0 ≤ zs.length := by rw [hz]; split <;> omega
    rcases Nat.eq_zero_or_pos n0 with h0 | h0
    · exact ⟨0, 0, fun h => by omega, fun j hj => by omega, by omega⟩
    · obtain ⟨b, o, rfl, hc'⟩ := ints_at hcell (by omega)
      refine ⟨b, o, fun _ => rfl, fun j hj => ⟨_, hc' j (by omega), ?_⟩, by omega⟩
      have : zs.getD j 0 ∈ zs := by
        rw [List.getD_eq_getElem?_getD, List.getElem?_eq_getElem (show j < zs.length by omega)]
        exact List.getElem_mem _
      exact hwz _ this

/-- A slice of arrays of s integers. -/
theorem open_rai {t e f s : Nat} {k : IntKind} {a0 : Option Addr} {n0 c0 : Nat} {x : DataW H} {p : List MemPlace} (ht : P.underlying t = some (.slice e)) (he : P.underlying e = some (.array s f)) (hf' : P.underlying f = some (.int k)) (hc : P.cellsOf f = 1) (hcs' : P.cellsOf e = s) (hs0 : 0 < s)
    (h : DataW.Trod enc P w base spare held t (.slice a0 n0 c0) x p) : ∃ b o, (0 < n0 → a0 = some ⟨b, o, none⟩) ∧ RI w k b o (n0 * s) ∧ n0 ≤ maxLen := by
  obtain ⟨fuel, hf⟩ := h
  rcases open_slice ht hf with ⟨hcs, _⟩ | ⟨a, l, c, m, n, D, Pl, hcs, hb, hl, hm, hmm, _, hi⟩
  · simp [Value.cells] at hcs
    obtain ⟨rfl, rfl, rfl⟩ := hcs
    exact ⟨0, 0, fun h => by omega, fun j hj => by simp at hj, by simp [maxLen]⟩
  · simp [Value.cells] at hcs
    obtain ⟨rfl, rfl, rfl⟩ := hcs
    have hlm : n0 ≤ m := by rw [hmm]; split <;> omega
    have key : ∀ i, i < m → ∀ j, j < s → ∃ y : Int, w.cell? (a.add (i * s + j)) = some (.int k y) ∧ (Lit.int k y).wf = true := by
      intro i hi' j hj
      obtain ⟨cs', h1, h2⟩ := hi i hi'
      rw [hcs'] at h1
      obtain ⟨_, hlen, hcell⟩ := World.cells?_some h1
      obtain ⟨xs, m', _, _, _, hxl, hg⟩ := DataW.trod_array he h2
      have h3 := hg j hj
      rw [hc, Nat.mul_one] at h3
      rw [List.getElem?_eq_getElem (show j < xs.length by omega)] at h3
      obtain ⟨y, hy, _, hw⟩ := DataW.trod_int hf' h3
      refine ⟨y, ?_, hw⟩
      have h4 := hcell j hj
      have h5 : cs'[j]? = some (.int k y) := by
        have : (cs'.drop j)[0]? = ((cs'.drop j).take 1)[0]? := by simp
        rw [hy] at this
        simpa using this
      rw [h5, Go.Deep.add_add] at h4
      exact h4
    rcases Nat.eq_zero_or_pos n0 with h0 | h0
    · subst h0
      exact ⟨0, 0, fun h => by omega, fun j hj => by simp at hj, by omega⟩
    · obtain ⟨y, hy, _⟩ := key 0 (by omega) 0 hs0
      obtain ⟨b, o, spot⟩ := a
      have hspot : spot = none := by simpa [Addr.add] using World.cell?_spot hy
      subst hspot
      refine ⟨b, o, fun _ => rfl, fun j hj => ?_, by omega⟩
      have hjm : j / s < n0 := Nat.div_lt_of_lt_mul (by rwa [Nat.mul_comm] at hj)
      obtain ⟨y, h1, h2⟩ := key (j / s) (by omega) (j % s) (Nat.mod_lt _ hs0)
      have e : j / s * s + j % s = j := by rw [Nat.mul_comm]; exact Nat.div_add_mod j s
      rw [e, Go.WideShapes.add_plain] at h1
      exact ⟨y, h1, h2⟩
end
end Go.Proofs.Ytnmpofjegepmaaa
