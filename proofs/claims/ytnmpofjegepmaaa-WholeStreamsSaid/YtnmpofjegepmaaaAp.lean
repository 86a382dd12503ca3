/- append, where what is owned and what is appended are complex numbers up to NaN. -/
import Derived.Test.YtnmpofjegepmaaaC5
import Derived.Maps.AppendAt
import Derived.Deep.AppendLies
import Derived.RegionTactic
import Derived.OwnWalk
namespace Go.Proofs.Ytnmpofjegepmaaa
open Go.RowKit Go.Proofs.Ytnmpofjegepmaaa.Fl

def cat (k : Nat) (xs ys : Nat → C) (j : Nat) : C := if j < k then xs j else ys (j - k)
theorem cat_lt {k j : Nat} {xs ys : Nat → C} (h : j < k) : cat k xs ys j = xs j := if_pos h
theorem cat_ge {k j : Nat} {xs ys : Nat → C} (h : k ≤ j) : cat k xs ys j = ys (j - k) := if_neg (by omega)
theorem cat_zero (xs ys : Nat → C) : cat 0 xs ys = ys := by funext j; simp [cat]

/-- A slice value that owns its row of complex numbers. -/
def OR (w : World) (base t size : Nat) (v : Value) (n : Nat) (xs : Nat → C) : Prop := ∃ vs : List Value, w.ownsRow base t size v n vs ∧ ∀ j, j < n * size → CV vs[j]? (xs j)

theorem cv_one {v : Value} {x : C} (h : CV (some v) x) : v.oneCell' = true := by
  obtain ⟨a, h1, _⟩ := h
  cases h1; rfl

theorem RC.list {w : World} {b o m : Nat} {xs : Nat → C} (h : RC w b o m xs) : ∃ vs : List Value, vs.length = m ∧ (∀ j u, vs[j]? = some u → w.cell? ((⟨b, o, none⟩ : Addr).add j) = some u) ∧ ∀ j, j < m → CV vs[j]? (xs j) := by
  refine ⟨(List.range m).map fun j => (w.cell? ⟨b, o + j, none⟩).getD undef, by simp, fun j u hu => ?_, fun j hj => ?_⟩
  · rw [Addr.add_lit]
    have hj : j < m := by have := (List.getElem?_eq_some_iff.1 hu).1; simpa using this
    obtain ⟨a, h1, _⟩ := h j hj
    simp [hj, h1] at hu ⊢
    exact hu
  · obtain ⟨a, h1, h2⟩ := h j hj
    exact ⟨a, by simp [hj, h1], h2⟩

section
variable {w w' : World} {base t size n : Nat} {v : Value} {xs ys : Nat → C}
theorem OR.congr (h : OR w base t size v n xs) (he : ∀ j, j < n * size → xs j = ys j) : OR w base t size v n ys := by
  obtain ⟨vs, h1, h2⟩ := h
  exact ⟨vs, h1, fun j hj => by rw [← he j hj]; exact h2 j hj⟩
theorem OR.nil (w : World) (base t size : Nat) (xs : Nat → C) : OR w base t size (.slice none 0 0) 0 xs := ⟨[], World.ownsRow_nil w base t size, fun j hj => by simp at hj⟩
theorem OR.empty (w : World) (t size : Nat) (xs : Nat → C) : OR (w.alloc (.cells #[] t)) w.heap.size t size (.slice (some ⟨w.heap.size, 0, none⟩) 0 0) 0 xs :=
  ⟨[], World.ownsRow_made w #[] 0 (Nat.le_refl _) (by simp) (by simp), fun j hj => by simp at hj⟩
theorem OR.form (h : OR w base t size v n xs) : (v = .slice none 0 0 ∧ n = 0) ∨ ∃ g cap, v = .slice (some ⟨g, 0, none⟩) n cap ∧ base ≤ g ∧ n ≤ cap ∧ OC w g t (n * size) xs := by
  obtain ⟨vs, ⟨hl, h1⟩, h2⟩ := h
  rcases h1 with h1 | ⟨g, cap, cur, rfl, hb, hg, hnc, _, hs, ht⟩
  · exact .inl h1
  · have hle : n * size ≤ cur.size := by rw [hs]; exact Nat.mul_le_mul_right _ hnc
    refine .inr ⟨g, cap, rfl, hb, hnc, cur, hg, hle, fun j hj => ?_⟩
    have := h2 j hj
    rw [← ht, List.getElem?_take, if_pos hj] at this
    simpa using this
theorem OR.keep {qs : List Nat} (h : OR w base t size v n xs) (k : But qs w w') (hb : ∀ g, v.ownBlock = some g → g ∉ qs) : OR w' base t size v n xs := by
  obtain ⟨vs, ⟨hl, h1⟩, h2⟩ := h
  refine ⟨vs, ⟨hl, ?_⟩, h2⟩
  rcases h1 with h1 | ⟨g, cap, cur, rfl, hb', hg, r⟩
  · exact .inl h1
  · exact .inr ⟨g, cap, cur, rfl, hb', k.heap hg (hb g rfl), r⟩
theorem OR.lt (h : OR w base t size v n xs) : ∀ g, v.ownBlock = some g → base ≤ g ∧ g < w.heap.size := by
  obtain ⟨vs, h1, _⟩ := h
  exact h1.lt
theorem OR.base_ (h : OR w base t size v n xs) {base' : Nat} (hb : ∀ g, v.ownBlock = some g → base' ≤ g) : OR w base' t size v n xs := by
  obtain ⟨vs, ⟨hl, h1⟩, h2⟩ := h
  refine ⟨vs, ⟨hl, ?_⟩, h2⟩
  rcases h1 with h1 | ⟨g, cap, cur, rfl, hb', hg, r⟩
  · exact .inl h1
  · exact .inr ⟨g, cap, cur, rfl, hb g rfl, hg, r⟩
end

section
variable {P : Program} (w : World)
theorem run_append_none (base t ty e : TypeId) (i : TypeInfo) (size : Nat) (ht : P.underlying t = some (.slice e)) (hi : P.info? e = some i)
    (v : Value) (n : Nat) (xs : List Value) (hown : w.ownsRow base e size v n xs) (c : Nat) : (Builtin.append_ #[t, t] ty #[v, .slice none 0 c]).run P w = .ok v w := by
  rcases hown.2 with ⟨rfl, rfl⟩ | ⟨g, cap, cur, rfl, _, _, hnc, _⟩
  · simp [Builtin.append_, run_underlying ht, sizeOf, typeInfo, hi, Builtin.lenOf, Builtin.firstCells]
  · simp [Builtin.append_, run_underlying ht, sizeOf, typeInfo, hi, Builtin.lenOf, Builtin.firstCells, hnc, storeCells]

theorem run_append_rc (base : Nat) (t ty e : TypeId) (z : Value) (size bytes : Nat) (ht : P.underlying t = some (.slice e)) (hinf : (P.info? e).map (fun i => (i.zero, i.size, i.bytes)) = some (some z, size, bytes))
    (hzs : z.cells.size = size) (hsz : 0 < size) (v : Value) (n : Nat) (xs : Nat → C) (hown : OR w base e size v n xs)
    (A : Option Addr) (b o m c : Nat) (ys : Nat → C) (hA : 0 < m → A = some ⟨b, o, none⟩) (hr : RC w b o (m * size) ys)
    (hbytes : (n + m) * bytes ≤ 140737488355328) (h63 : n + m ≤ 140737488355328) (hbase : base ≤ w.heap.size) :
    ∃ v' w', (Builtin.append_ #[t, t] ty #[v, .slice A m c]).run P w = .ok v' w' ∧ OR w' base e size v' (n + m) (cat (n * size) xs ys) ∧ w.grownBy w' v.ownBlock ∧
      (v'.ownBlock = v.ownBlock ∨ v'.ownBlock = some w.heap.size) ∧ (v ≠ .slice none 0 0 → v' ≠ .slice none 0 0) := by
  obtain ⟨i, hi, hz, hs, hby⟩ := info_parts hinf
  obtain ⟨vs, hv, hvs⟩ := hown
  have fin : ∀ (news : List Value) (v' : Value) (w' : World), news.length = m * size → (∀ j, j < m * size → CV news[j]? (ys j)) → w'.ownsRow base e size v' (n + m) (vs ++ news) → OR w' base e size v' (n + m) (cat (n * size) xs ys) := by
    intro news v' w' hl hn ho
    refine ⟨_, ho, fun j hj => ?_⟩
    rw [Nat.add_mul] at hj
    by_cases h : j < n * size
    · rw [cat_lt h, List.getElem?_append_left (by rw [hv.1]; exact h)]; exact hvs j h
    · rw [cat_ge (by omega), List.getElem?_append_right (by rw [hv.1]; omega), hv.1]; exact hn _ (by omega)
  rcases A with _ | ad
  · have hm : m = 0 := by
      rcases Nat.eq_zero_or_pos m with h0 | h0
      · exact h0
      · cases hA h0
    subst hm
    exact ⟨v, w, run_append_none w base t ty e i size ht hi v n vs hv c, fin [] v w (by simp) (fun j hj => by simp at hj) (by simpa using hv), World.grownBy.refl w _, .inl rfl, id⟩
  · obtain ⟨news, hl, hc, hcv⟩ := hr.list
    have hcells : ∀ j u, news[j]? = some u → w.cell? (ad.add j) = some u := by
      intro j u hu
      rcases Nat.eq_zero_or_pos m with h0 | h0
      · subst h0
        have hn : news = [] := List.eq_nil_of_length_eq_zero (by simpa using hl)
        subst hn
        simp at hu
      · cases hA h0
        exact hc j u hu
    have h1 : ∀ u ∈ news, u.oneCell' = true := fun u hu => by
      obtain ⟨j, hj, rfl⟩ := List.getElem_of_mem hu
      have := hcv j (by omega)
      rw [List.getElem?_eq_getElem hj] at this
      exact cv_one this
    obtain ⟨v', w', hrun, h2, h3, h4, h5⟩ := run_append_own_at (P := P) w base t ty e i z size bytes ht hi hz hs hby hzs hsz v n vs hv ad m c news hl hcells h1 (by simp only [maxLen]; omega) hbytes hbase
    exact ⟨v', w', hrun, fin news v' w' hl hcv h2, h3, h5, fun hv hv' => hv (h4.1 hv').1⟩

theorem wp_append_rc {o : Oper} {a : Act} {K : Act → World → Prop} {Q : Exit → Act → World → Prop} (s x : Operand) (t : TypeId)
    (ho : o.op = .call { callee := .builtin .append, args := #[s, x], argTypes := #[t, t] })
    (base : Nat) (e : TypeId) (z : Value) (size bytes : Nat) (ht : P.underlying t = some (.slice e)) (hinf : (P.info? e).map (fun i => (i.zero, i.size, i.bytes)) = some (some z, size, bytes))
    (hzs : z.cells.size = size) (hsz : 0 < size) (v : Value) (n : Nat) (xs : Nat → C) (hs : a.eval s = v) (hown : OR w base e size v n xs)
    (A : Option Addr) (b ob m c : Nat) (ys : Nat → C) (hx : a.eval x = .slice A m c) (hA : 0 < m → A = some ⟨b, ob, none⟩) (hr : RC w b ob (m * size) ys)
    (hbytes : (n + m) * bytes ≤ 140737488355328) (h63 : n + m ≤ 140737488355328) (hbase : base ≤ w.heap.size)
    (h : ∀ v' w', OR w' base e size v' (n + m) (cat (n * size) xs ys) → w.grownBy w' v.ownBlock → (v'.ownBlock = v.ownBlock ∨ v'.ownBlock = some w.heap.size) → (v ≠ .slice none 0 0 → v' ≠ .slice none 0 0) → K (a.put o.dst v') w') : o.wp P a w K Q := by
  obtain ⟨v', w', hrun, h2, h3, h4, h5⟩ := run_append_rc (P := P) w base t o.type e z size bytes ht hinf hzs hsz v n xs hown A b ob m c ys hA hr hbytes h63 hbase
  unfold Oper.wp execOp
  simp only [ho, resolve, invoke, builtin, Sem.run_bind, Sem.run_pure, Result.andThen_ok, List.map_toArray, List.map_cons, List.map_nil, hs, hx, hrun]
  exact h v' w' h2 h3 h4 h5

theorem wpList_append_rc {ops : Array Oper} {rest : List Oper} {o : Oper} {a : Act} {Q : Exit → Act → World → Prop} (hgd : o.guard = none) (s x : Operand) (t : TypeId)
    (ho : o.op = .call { callee := .builtin .append, args := #[s, x], argTypes := #[t, t] })
    (base : Nat) (e : TypeId) (z : Value) (size bytes : Nat) (ht : P.underlying t = some (.slice e)) (hinf : (P.info? e).map (fun i => (i.zero, i.size, i.bytes)) = some (some z, size, bytes))
    (hzs : z.cells.size = size) (hsz : 0 < size) (v : Value) (n : Nat) (xs : Nat → C) (hs : a.eval s = v) (hown : OR w base e size v n xs)
    (A : Option Addr) (b ob m c : Nat) (ys : Nat → C) (hx : a.eval x = .slice A m c) (hA : 0 < m → A = some ⟨b, ob, none⟩) (hr : RC w b ob (m * size) ys)
    (hbytes : (n + m) * bytes ≤ 140737488355328) (h63 : n + m ≤ 140737488355328) (hbase : base ≤ w.heap.size)
    (h : ∀ v' w', OR w' base e size v' (n + m) (cat (n * size) xs ys) → w.grownBy w' v.ownBlock → (v'.ownBlock = v.ownBlock ∨ v'.ownBlock = some w.heap.size) → (v ≠ .slice none 0 0 → v' ≠ .slice none 0 0) → wpList P ops Q rest (a.put o.dst v') w') : wpList P ops Q (o :: rest) a w :=
  wpList_plain hgd fun _ hK => wp_append_rc w s x t ho base e z size bytes ht hinf hzs hsz v n xs hs hown A b ob m c ys hx hA hr hbytes h63 hbase fun v' w' h2 h3 h4 h5 => hK _ _ (h v' w' h2 h3 h4 h5)

theorem step_append_rc {ops : Array Oper} {o : Oper} {a : Act} {K : Act → World → Prop} {Q : Exit → Act → World → Prop} {E : Prop} (hgd : o.guard = none) (s x : Operand) (t : TypeId)
    (ho : o.op = .call { callee := .builtin .append, args := #[s, x], argTypes := #[t, t] })
    (base : Nat) (e : TypeId) (z : Value) (size bytes : Nat) (ht : P.underlying t = some (.slice e)) (hinf : (P.info? e).map (fun i => (i.zero, i.size, i.bytes)) = some (some z, size, bytes))
    (hzs : z.cells.size = size) (hsz : 0 < size) (v : Value) (n : Nat) (xs : Nat → C) (hs : a.eval s = v) (hown : OR w base e size v n xs)
    (A : Option Addr) (b ob m c : Nat) (ys : Nat → C) (hx : a.eval x = .slice A m c) (hA : 0 < m → A = some ⟨b, ob, none⟩) (hr : RC w b ob (m * size) ys)
    (hbytes : (n + m) * bytes ≤ 140737488355328) (h63 : n + m ≤ 140737488355328) (hbase : base ≤ w.heap.size)
    (h : ∀ v' w', OR w' base e size v' (n + m) (cat (n * size) xs ys) → w.grownBy w' v.ownBlock → (v'.ownBlock = v.ownBlock ∨ v'.ownBlock = some w.heap.size) → (v ≠ .slice none 0 0 → v' ≠ .slice none 0 0) → K (a.put o.dst v') w') :
    if Region.wanted o (yielded ops a.tmps) = true then Oper.wp P o a w K Q else E := by
  have hw : Region.wanted o (yielded ops a.tmps) = true := by simp [Region.wanted, hgd]
  rw [if_pos hw]
  exact wp_append_rc w s x t ho base e z size bytes ht hinf hzs hsz v n xs hs hown A b ob m c ys hx hA hr hbytes h63 hbase h
end

theorem Try.info71 : (Try.prog.info? 71).map (fun i => (i.zero, i.size, i.bytes)) = some (some (.agg #[.complex .f64 0 0, .complex .f64 0 0]), 2, 32) := by kernel_rfl
theorem Try.info33 : (Try.prog.info? 33).map (fun i => (i.zero, i.size, i.bytes)) = some (some (.agg #[.complex .f64 0 0, .complex .f64 0 0, .complex .f64 0 0, .complex .f64 0 0, .complex .f64 0 0]), 5, 80) := by kernel_rfl
end Go.Proofs.Ytnmpofjegepmaaa
