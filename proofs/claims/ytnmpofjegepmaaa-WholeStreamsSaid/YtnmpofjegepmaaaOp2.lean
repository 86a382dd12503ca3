/- How great an argument can be: the form's own reach. -/
import Derived.Test.YtnmpofjegepmaaaOp
import Derived.SizedLaws
namespace Go.Proofs.Ytnmpofjegepmaaa
open Go.ChangeShapes Go.WideShapes Go.ChangeAt Go.RowKit Go.Deep

section
variable {H : Type} {enc : TypeId × Value → H} {P : Program} {w : World} {base : Nat} {spare : Nat → Bool} {held : Bool}
theorem sized_ri {ts : List TypeId} {ds : List (DataW H)} (hsz : (DataW.weightsEach P ts ds).all (· ≤ reachBytes) = true) {j : Nat} {t e : TypeId} {k : IntKind} {a0 : Option Addr} {n0 c0 : Nat} {x : DataW H} {p : List MemPlace}
    (hts : ts[j]? = some t) (hds : ds[j]? = some x) (ht : P.underlying t = some (.slice e)) (he : P.underlying e = some (.int k)) (hc : P.cellsOf e = 1)
    (h : DataW.Trod enc P w base spare held t (.slice a0 n0 c0) x p) : n0 * P.bytesOf e ≤ reachBytes := by
  obtain ⟨fuel, hf⟩ := h
  rcases open_ints ht he hc hf with ⟨hcs, _⟩ | ⟨a, l, c, zs, hcs, _, hl, hm, hz, hx, hcell, hwz⟩
  · simp [Value.cells] at hcs
    obtain ⟨rfl, rfl, rfl⟩ := hcs
    simp
  · simp [Value.cells] at hcs
    obtain ⟨rfl, rfl, rfl⟩ := hcs
    simp only [Prod.mk.injEq] at hx
    obtain ⟨rfl, rfl⟩ := hx
    have := sized_slice hsz hts hds ht
    simp only [lits, List.length_map, List.length_take, List.length_drop] at this
    have hlz : n0 ≤ zs.length := by rw [hz]; split <;> omega
    have e1 : min n0 zs.length + (zs.length - n0) = zs.length := by omega
    rw [e1] at this
    exact Nat.le_trans (Nat.mul_le_mul_right _ hlz) this
end
end Go.Proofs.Ytnmpofjegepmaaa
