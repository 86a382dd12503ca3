/- How a text is gone through. -/
import Derived.Test.YtnghppgpdeghfaaGreatDoorTx2
namespace Go.Proofs.YtnghppgpdeghfaaGreatDoor.Tx
open Go.Proofs.YtnghppgpdeghfaaGreatDoor.Fl Go.Proofs.YtnghppgpdeghfaaGreatDoor.Pt

/-- X stands in L from a to b. -/
def Is (L : List UInt8) (a : Nat) (X : List UInt8) (b : Nat) : Prop := b = a + X.length ∧ L.drop a = X ++ L.drop b
theorem Is.nil (L : List UInt8) (a : Nat) : Is L a [] a := ⟨rfl, rfl⟩
theorem Is.one {L : List UInt8} {a : Nat} {c : UInt8} (h : L[a]? = some c) : Is L a [c] (a + 1) := by
  refine ⟨rfl, ?_⟩
  obtain ⟨hl, he⟩ := List.getElem?_eq_some_iff.1 h
  rw [List.drop_eq_getElem_cons hl, he]; rfl
theorem Is.trans {L X Y : List UInt8} {a b c : Nat} (h : Is L a X b) (k : Is L b Y c) : Is L a (X ++ Y) c :=
  ⟨by rw [k.1, h.1, List.length_append]; omega, by rw [h.2, k.2, List.append_assoc]⟩
theorem Is.piece {L X : List UInt8} {a b : Nat} (h : Is L a X b) : (L.drop a).take (b - a) = X := by
  rw [h.2, h.1, Nat.add_sub_cancel_left, List.take_left]
theorem Is.le {L X : List UInt8} {a b : Nat} (h : Is L a X b) (ha : a ≤ L.length) : b ≤ L.length := by
  have := congrArg List.length h.2
  rw [List.length_append, List.length_drop, List.length_drop] at this
  have := h.1
  omega
theorem Is.whole {L X : List UInt8} {b : Nat} (h : Is L 0 X b) (hb : L.length ≤ b) : L = X := by
  have h1 := h.2
  rw [List.drop_zero, List.drop_eq_nil_of_le hb, List.append_nil] at h1
  exact h1

/-- These bytes, one by one. -/
def tk (L : List UInt8) : List UInt8 → Nat → Bool × Nat
  | [], a => (true, a)
  | c :: t, a => if L[a]? = some c then tk L t (a + 1) else (false, a)
theorem tk_is (L : List UInt8) : ∀ (t : List UInt8) (a b : Nat), tk L t a = (true, b) → Is L a t b
  | [], a, b, h => by simp only [tk] at h; injection h with _ h; subst h; exact Is.nil _ _
  | c :: t, a, b, h => by
    rw [tk] at h
    split at h
    · rename_i hc; exact (Is.one hc).trans (tk_is L t _ b h)
    · injection h with h; cases h
/-- How far the bytes are such. -/
def rn (p : UInt8 → Bool) (L : List UInt8) (a : Nat) : Nat := a + ((L.drop a).takeWhile p).length
theorem takeWhile_all (p : UInt8 → Bool) : ∀ (l : List UInt8), ∀ c ∈ l.takeWhile p, p c = true
  | [], c, h => by simp at h
  | d :: l, c, h => by
    rw [List.takeWhile_cons] at h
    split at h
    · rename_i hd
      rcases List.mem_cons.1 h with rfl | h
      · exact hd
      · exact takeWhile_all p l c h
    · simp at h
theorem drop_takeWhile (p : UInt8 → Bool) : ∀ (l : List UInt8), l = l.takeWhile p ++ l.drop (l.takeWhile p).length
  | [] => rfl
  | d :: l => by
    rw [List.takeWhile_cons]
    split
    · simp only [List.length_cons, List.drop_succ_cons, List.cons_append]; rw [← drop_takeWhile p l]
    · rfl
theorem rn_is (p : UInt8 → Bool) (L : List UInt8) (a : Nat) : Is L a ((L.drop a).takeWhile p) (rn p L a) := by
  refine ⟨rfl, ?_⟩
  unfold rn
  rw [← List.drop_drop]
  exact drop_takeWhile p _
theorem rn_step {p : UInt8 → Bool} {L : List UInt8} {a : Nat} {c : UInt8} (h : L[a]? = some c) (hc : p c = true) : rn p L a = rn p L (a + 1) := by
  obtain ⟨hl, he⟩ := List.getElem?_eq_some_iff.1 h
  unfold rn
  rw [List.drop_eq_getElem_cons hl, he, List.takeWhile_cons, if_pos hc, List.length_cons]
  omega
theorem rn_stop {p : UInt8 → Bool} {L : List UInt8} {a : Nat} (h : ∀ c, L[a]? = some c → p c = false) : rn p L a = a := by
  unfold rn
  by_cases hl : a < L.length
  · have := h _ (List.getElem?_eq_getElem hl)
    rw [List.drop_eq_getElem_cons hl, List.takeWhile_cons, if_neg (by simp [this])]; rfl
  · rw [List.drop_eq_nil_of_le (by omega)]; rfl
/-- Digits: one at least; a 0 in front stands alone. -/
def dg (p : UInt8 → Bool) (L : List UInt8) (a : Nat) : Bool × Nat :=
  match L[a]? with
  | none => (false, a)
  | some c => if p c then (if c = 48 then (true, a + 1) else (true, rn p L a)) else (false, a)
theorem dg_is {p : UInt8 → Bool} {L : List UInt8} {a b : Nat} (h : dg p L a = (true, b)) : ∃ D, Is L a D b ∧ (∀ c ∈ D, p c = true) ∧ D ≠ [] := by
  unfold dg at h
  cases hc : L[a]? with
  | none => rw [hc] at h; injection h with h; cases h
  | some c =>
    rw [hc] at h
    simp only at h
    split at h
    · rename_i hp
      split at h
      · injection h with _ h
        subst h
        exact ⟨[c], Is.one hc, by intro d hd; simp at hd; rw [hd]; exact hp, by simp⟩
      · injection h with _ h
        subst h
        refine ⟨_, rn_is p L a, takeWhile_all p _, ?_⟩
        obtain ⟨hl, he⟩ := List.getElem?_eq_some_iff.1 hc
        rw [List.drop_eq_getElem_cons hl, he, List.takeWhile_cons, if_pos hp]
        simp
    · injection h with h; cases h
def bd (x : Bool × Nat) (f : Nat → Bool × Nat) : Bool × Nat := if x.1 then f x.2 else x
theorem bd_true {x : Bool × Nat} {f : Nat → Bool × Nat} {b : Nat} (h : bd x f = (true, b)) : ∃ c, x = (true, c) ∧ f c = (true, b) := by
  unfold bd at h
  obtain ⟨x1, x2⟩ := x
  cases x1
  · simp at h
  · exact ⟨x2, rfl, by simpa using h⟩
/-- The power's digits, their sign ahead. -/
def pw (L : List UInt8) (a : Nat) : Bool × Nat := if L[a]? = some 45 then (if L[a + 1]? = some 48 then (false, a + 1) else dg isD L (a + 1)) else dg isD L a
def sg (L : List UInt8) (a : Nat) : Bool × Nat := bd (tk L [48, 120] a) fun a => bd (dg isH L a) fun a => bd (tk L [112] a) fun a => pw L a
def sf (L : List UInt8) (a : Nat) : Bool × Nat :=
  if L[a]? = some 110 then tk L [110, 97, 110] a else if L[a]? = some 105 then tk L [105, 110, 102] a
  else if L[a]? = some 45 then (if L[a + 1]? = some 105 then tk L [105, 110, 102] (a + 1) else sg L (a + 1)) else sg L a
theorem pw_is {L : List UInt8} {a b : Nat} (h : pw L a = (true, b)) : ∃ (bel : Bool) (E : List UInt8), Is L a ((if bel then [45] else []) ++ E) b ∧ (∀ c ∈ E, isD c = true) ∧ E ≠ [] := by
  unfold pw at h
  split at h
  · rename_i h0
    split at h
    · injection h with h; cases h
    · obtain ⟨E, e1, e2, e3⟩ := dg_is h
      exact ⟨true, E, (Is.one h0).trans e1, e2, e3⟩
  · obtain ⟨E, e1, e2, e3⟩ := dg_is h
    exact ⟨false, E, e1, e2, e3⟩
theorem sg_is {L : List UInt8} {a b : Nat} (h : sg L a = (true, b)) : ∃ (M : List UInt8) (bel : Bool) (E : List UInt8), Is L a ([48, 120] ++ (M ++ 112 :: ((if bel then [45] else []) ++ E))) b ∧ (∀ c ∈ M, isH c = true) ∧ M ≠ [] ∧ (∀ c ∈ E, isD c = true) ∧ E ≠ [] := by
  unfold sg at h
  obtain ⟨a1, h1, h⟩ := bd_true h
  obtain ⟨a2, h2, h⟩ := bd_true h
  obtain ⟨a3, h3, h⟩ := bd_true h
  obtain ⟨M, m1, m2, m3⟩ := dg_is h2
  obtain ⟨bel, E, e1, e2, e3⟩ := pw_is h
  exact ⟨M, bel, E, (tk_is _ _ _ _ h1).trans (m1.trans ((tk_is _ _ _ _ h3).trans e1)), m2, m3, e2, e3⟩
/-- What a float's scan has seen. -/
theorem sf_is {L : List UInt8} {a b : Nat} (h : sf L a = (true, b)) : Is L a [110, 97, 110] b ∨ Is L a [105, 110, 102] b ∨ Is L a [45, 105, 110, 102] b ∨
    ∃ (neg : Bool) (M : List UInt8) (bel : Bool) (E : List UInt8), Is L a (tok neg M ((if bel then [45] else []) ++ E)) b ∧ (∀ c ∈ M, isH c = true) ∧ M ≠ [] ∧ (∀ c ∈ E, isD c = true) ∧ E ≠ [] := by
  unfold sf at h
  split at h
  · exact .inl (tk_is _ _ _ _ h)
  · split at h
    · exact .inr (.inl (tk_is _ _ _ _ h))
    · split at h
      · rename_i h0
        split at h
        · exact .inr (.inr (.inl ((Is.one h0).trans (tk_is _ _ _ _ h))))
        · obtain ⟨M, bel, E, e1, e2, e3, e4, e5⟩ := sg_is h
          exact .inr (.inr (.inr ⟨true, M, bel, E, (Is.one h0).trans e1, e2, e3, e4, e5⟩))
      · obtain ⟨M, bel, E, e1, e2, e3, e4, e5⟩ := sg_is h
        exact .inr (.inr (.inr ⟨false, M, bel, E, e1, e2, e3, e4, e5⟩))
end Go.Proofs.YtnghppgpdeghfaaGreatDoor.Tx
