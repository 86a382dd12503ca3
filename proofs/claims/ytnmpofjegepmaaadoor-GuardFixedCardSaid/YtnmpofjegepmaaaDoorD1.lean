/- Small closed facts: numbers that are no NaN; the filter of half. -/
import Derived.Test.YtnmpofjegepmaaaDoorC7
import Derived.Outline
namespace Go.Proofs.YtnmpofjegepmaaaDoor
open Go.RowKit Go.Proofs.YtnmpofjegepmaaaDoor.Fl

def ONE : C := (4607182418800017408, 0)
theorem cn_eq {u v : Nat} (h : cn u = v) (hv : nan v = false) : u = v := by
  cases hu : nan u
  · rwa [cn_num hu] at h
  · rw [cn_nan hu] at h; subst h; cases hv
theorem ccn_eq {y : C} {a b : Nat} (h : ccn y = (a, b)) (ha : nan a = false) (hb : nan b = false) : y = (a, b) := by
  obtain ⟨y1, y2⟩ := y
  simp only [ccn, Prod.mk.injEq] at h
  rw [cn_eq h.1 ha, cn_eq h.2 hb]

/-- y = x + y1/2. -/
def hSec (j : Nat) : C := if j = 0 then ONE else if j = 3 then (13826050856027422720, 0) else Z0
theorem h_fin : ∀ j, j < 1 * 5 → FinC (hSec j) := by
  intro j hj
  have : j = 0 ∨ j = 1 ∨ j = 2 ∨ j = 3 ∨ j = 4 := by omega
  rcases this with rfl | rfl | rfl | rfl | rfl <;> (unfold FinC; decide +kernel)

theorem one_rc (w : World) (a b : Nat) (x : C) (h : wf (a, b)) (hx : ccn (a, b) = x) : RC (w.alloc (.cells #[.complex .f64 a b] 26)) w.heap.size 0 (1 * 1) (fun _ => x) := by
  intro j hj
  obtain rfl : j = 0 := by omega
  exact ⟨(a, b), by simp [go_sem, V], h, hx⟩
theorem OR.grown {w w' : World} {base t size n : Nat} {v : Value} {xs : Nat → C} {row : Option Nat} (h : OR w base t size v n xs) (hg : w.grownBy w' row) (hne : v.ownBlock ≠ row ∨ v.ownBlock = none) : OR w' base t size v n xs := by
  obtain ⟨vs, h1, h2⟩ := h
  exact ⟨vs, h1.kept hg hne.symm, h2⟩
theorem OR.alloc {w : World} {base t size n : Nat} {v : Value} {xs : Nat → C} (h : OR w base t size v n xs) (o : Obj) : OR (w.alloc o) base t size v n xs := by
  obtain ⟨vs, h1, h2⟩ := h
  exact ⟨vs, h1.alloc o, h2⟩
theorem OR.drewN {w : World} {base t size n : Nat} {v : Value} {xs : Nat → C} (h : OR w base t size v n xs) (k : Nat) : OR (w.drewN k) base t size v n xs := h
theorem OR.shape {w : World} {base t size n : Nat} {v : Value} {xs : Nat → C} (h : OR w base t size v n xs) (hp : 0 < w.heap.size) : ∃ A g c, v = .slice A n c ∧ (0 < n → A = some ⟨g, 0, none⟩) ∧ RC w g 0 (n * size) xs ∧ g < w.heap.size := by
  rcases h.form with ⟨rfl, rfl⟩ | ⟨g, c, rfl, _, _, ho⟩
  · exact ⟨none, w.heap.size - 1, 0, rfl, fun h => by omega, fun j hj => by simp at hj, by omega⟩
  · exact ⟨_, g, c, rfl, fun _ => rfl, ho.rc, ho.lt⟩
theorem But.undrew {qs : List Nat} {a b : World} (h : But qs a.drew b) : But qs a b := ⟨h.os, h.tape, h.output, h.size, h.block⟩
theorem OR.shape3 {w : World} {base t size n : Nat} {v : Value} {xs : Nat → C} (h : OR w base t size v n xs) : ∃ A g c, v = .slice A n c ∧ n ≤ c ∧ (0 < n → A = some ⟨g, 0, none⟩) ∧ RC w g 0 (n * size) xs ∧ base ≤ g := by
  rcases h.form with ⟨rfl, rfl⟩ | ⟨g, c, rfl, hb, hc, ho⟩
  · exact ⟨none, base, 0, rfl, Nat.le_refl _, fun h => by omega, fun j hj => by simp at hj, Nat.le_refl _⟩
  · exact ⟨_, g, c, rfl, hc, fun _ => rfl, ho.rc, hb⟩
theorem OR.ne_oc {w : World} {base t t' size n q m : Nat} {v : Value} {xs ys : Nat → C} (h : OR w base t size v n xs) (ho : OC w q t' m ys) (ht : t ≠ t') : ∀ g, v.ownBlock = some g → g ≠ q := by
  rintro g hg rfl
  obtain ⟨vs, ⟨_, h1⟩, _⟩ := h
  obtain ⟨cs, h2, _⟩ := ho
  rcases h1 with ⟨rfl, _⟩ | ⟨g', cap, cur, rfl, _, h3, _⟩
  · simp [Value.ownBlock] at hg
  · simp [Value.ownBlock] at hg
    subst hg
    rw [h2] at h3
    injection h3 with h3
    injection h3 with _ h4
    exact ht h4.symm

theorem But.of_grown {w w' : World} {row : Option Nat} (hg : w.grownBy w' row) : But row.toList w w' := ⟨hg.os, hg.tape, hg.output, hg.size, fun k hk hn => hg.block k hk (fun e => hn (by rw [← e]; simp))⟩
theorem or3 {n : Nat} {A B X Y : Option Addr} (h1 : 0 < n → A = X) (h2 : 0 < n → B = Y) : n = 0 ∨ (0 < n ∧ A = X ∧ B = Y) := by
  rcases Nat.eq_zero_or_pos n with h | h
  · exact .inl h
  · exact .inr ⟨h, h1 h, h2 h⟩
end Go.Proofs.YtnmpofjegepmaaaDoor
