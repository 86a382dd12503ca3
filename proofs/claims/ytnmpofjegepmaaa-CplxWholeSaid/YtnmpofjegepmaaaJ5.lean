/- cplx.Unlike of three numbers, the third the first. -/
import Derived.Test.YtnmpofjegepmaaaJ4
namespace Go.Proofs.Ytnmpofjegepmaaa
open Go.RowKit Go.Proofs.Ytnmpofjegepmaaa.Fl Go.Proofs.Ytnmpofjegepmaaa.Pt

theorem ceq_sym {a b : C} (ha : wf a) (hb : wf b) : ceq a b = ceq b a := by
  unfold ceq Op.floatEq
  rw [order_sym ha.1 hb.1, order_sym ha.2 hb.2]
theorem feq_self {a b : Nat} (ha : a < 18446744073709551616) (hb : b < 18446744073709551616) (h : Op.floatEq .f64 a b = true) : Op.floatEq .f64 a a = true := by
  unfold Op.floatEq at *
  cases hn : nan a
  · rw [order_self ha hn]; rfl
  · rw [order_nan ha hb (.inl hn)] at h; cases h
theorem ceq_self {a b : C} (ha : wf a) (hb : wf b) (h : ceq a b = true) : ceq a a = true := by
  unfold ceq at *
  simp only [Bool.and_eq_true] at *
  exact ⟨feq_self ha.1 hb.1 h.1, feq_self ha.2 hb.2 h.2⟩

def n3 (x y : C) : Nat := if ceq x x then (if ceq x y then 1 else 2) else 3
/-- Where Unlike stands behind k of x, y, x. -/
def Q3 (x y : C) (k : Nat) (l : List Ent) (j : Nat) : Prop :=
  (k = 0 ∧ l = [] ∧ j = 0) ∨ (k = 1 ∧ (∃ b, l = [(x, 1, b)]) ∧ j = 1) ∨
  (k = 2 ∧ ceq y x = true ∧ (∃ k' b, (k' = x ∨ k' = y) ∧ l = [(k', 2, b)]) ∧ j = 1) ∨
  (k = 2 ∧ ceq y x = false ∧ (∃ b b', l = [(x, 1, b), (y, 1, b')]) ∧ j = 2) ∨
  (k = 3 ∧ j = n3 x y)
theorem Q3.step {x y : C} (hx : wf x) (hy : wf y) {k : Nat} {l : List Ent} {j : Nat} (h : Q3 x y k l j) (hk : k < 3) (c : C) (hc : c = if k = 1 then y else x) :
    (fc c l 0 = none ∧ (j = 0 → c = x) ∧ j ≤ 2 ∧ ∀ b, Q3 x y (k + 1) (l ++ [(c, 1, b)]) (j + 1)) ∨
    (∃ i v, fc c l 0 = some (i, v) ∧ 0 < v ∧ v ≤ 2 ∧ 0 < j ∧ ∀ e k', l[i]? = some e → (k' = c ∨ k' = e.1) → Q3 x y (k + 1) (l.set i (k', v + 1, e.2.2)) j) := by
  rcases h with ⟨rfl, rfl, rfl⟩ | ⟨rfl, ⟨b, rfl⟩, rfl⟩ | ⟨rfl, hyx, ⟨k', b, hk', rfl⟩, rfl⟩ | ⟨rfl, hyx, ⟨b, b', rfl⟩, rfl⟩ | ⟨rfl, rfl⟩
  · obtain rfl : c = x := by simpa using hc
    exact .inl ⟨rfl, fun _ => rfl, by omega, fun b => .inr (.inl ⟨rfl, ⟨b, rfl⟩, rfl⟩)⟩
  · obtain rfl : c = y := by simpa using hc
    cases hcx : ceq c x
    · refine .inl ⟨by simp [fc, hcx], fun h => by omega, by omega, fun b' => .inr (.inr (.inr (.inl ⟨rfl, hcx, ⟨b, b', rfl⟩, rfl⟩)))⟩
    · refine .inr ⟨0, 1, by simp [fc, hcx], by omega, by omega, by omega, fun e k' he hk' => .inr (.inr (.inl ⟨rfl, hcx, ⟨k', b, ?_, ?_⟩, rfl⟩))⟩
      · simp at he; subst he; exact hk'.symm
      · simp at he; subst he; rfl
  · obtain rfl : c = x := by simpa using hc
    have hxy : ceq c y = true := by rw [ceq_sym hx hy]; exact hyx
    have hxx := ceq_self hx hy hxy
    have hck : ceq c k' = true := by rcases hk' with rfl | rfl <;> assumption
    refine .inr ⟨0, 2, by simp [fc, hck], by omega, by omega, by omega, fun e k2 he hk2 => .inr (.inr (.inr (.inr ⟨rfl, ?_⟩)))⟩
    unfold n3; rw [hxx, hxy]; rfl
  · obtain rfl : c = x := by simpa using hc
    have hxy : ceq c y = false := by rw [ceq_sym hx hy]; exact hyx
    cases hxx : ceq c c
    · refine .inl ⟨by simp [fc, hxx, hxy], fun h => by omega, by omega, fun b2 => .inr (.inr (.inr (.inr ⟨rfl, ?_⟩)))⟩
      unfold n3; rw [hxx]; rfl
    · refine .inr ⟨0, 1, by simp [fc, hxx], by omega, by omega, by omega, fun e k2 he hk2 => .inr (.inr (.inr (.inr ⟨rfl, ?_⟩)))⟩
      unfold n3; rw [hxx, hxy]; rfl
  · omega

theorem putM_heap {w : World} {r clock c2 : Nat} {es : Array MapEntry} {l : List Ent} (hb : w.heap[r]? = some (.map es clock)) : (putM w r l c2).heap[r]? = some (.map (l.map mkE).toArray c2) := by
  have := (Array.getElem?_eq_some_iff.1 hb).1
  simp [putM, this]
theorem putM_but {w a : World} {qs : List Nat} {r c2 : Nat} {l : List Ent} (h : But qs a w) (hr : r ∈ qs ∨ a.heap.size ≤ r) : But qs a (putM w r l c2) := by
  refine ⟨h.os, h.tape, h.output, by simpa [putM] using h.size, fun i hi hn => ?_⟩
  have hne : r ≠ i := fun e => by
    subst e
    rcases hr with hr | hr
    · exact hn hr
    · omega
  have := h.block i hi hn
  simp only [putM]
  rw [Array.getElem?_setIfInBounds_ne hne]
  exact this

set_option linter.unusedSimpArgs false in
set_option maxHeartbeats 1000000 in
set_option maxRecDepth 100000 in
theorem unlike_any (x y : C) (hx : wf x) (hy : wf y) (b kk : Nat) (w : World) (h0 : w.cell? ⟨b, 0, none⟩ = some (.complex .f64 x.1 x.2)) (h1 : w.cell? ⟨b, 1, none⟩ = some (.complex .f64 y.1 y.2)) (h2 : w.cell? ⟨b, 2, none⟩ = some (.complex .f64 x.1 x.2)) :
    Calls Try.prog 59 #[.slice (some ⟨b, 0, none⟩) 3 kk] w fun e w' => ∃ v ys, e = .returned v ∧ OR w' w.heap.size 25 1 v (n3 x y) ys ∧ ys 0 = ccn x ∧ But [] w w' := by
  have hbl : b < w.heap.size := World.block_lt_of_cell? _ _ h0
  have hmm := @run_makeMap Try.prog
  obtain ⟨w1, hw1, hb1, hm1⟩ : ∃ w1, w.alloc (.map #[] 0) = w1 ∧ But [] w w1 ∧ w1.heap[w.heap.size]? = some (.map #[] 0) := ⟨_, rfl, (But.refl _ _).alloc _, by first | exact Array.getElem?_push_size | (unfold World.alloc; exact Array.getElem?_push_size)⟩
  have HM1 := Lib.hid hm1
  have s1 : w.heap.size < w1.heap.size := (Array.getElem?_eq_some_iff.1 hm1).1
  clear hm1
  have HW1 := Lib.hid hw1
  clear hw1
  replace h0 := hb1.cell h0 (by simp)
  replace h1 := hb1.cell h1 (by simp)
  replace h2 := hb1.cell h2 (by simp)
  go_enter Try.func59, Try.ntmps59
  go_wp2_with fail
  rw [HW1.out]
  generalize hr : w.heap.size = r at *
  have HR := Lib.hid hr
  clear hr hmm
  have HX : ∀ (wr : World) (k : Nat), But [r] w1 wr → k < 3 → ∃ c : C, c = (if k = 1 then y else x) ∧ wr.cell? ⟨b, k, none⟩ = some (.complex .f64 c.1 c.2) := by
    intro wr k hb hk
    have : k = 0 ∨ k = 1 ∨ k = 2 := by omega
    rcases this with rfl | rfl | rfl
    · exact ⟨x, rfl, hb.cell h0 (by simp; omega)⟩
    · exact ⟨y, rfl, hb.cell h1 (by simp; omega)⟩
    · exact ⟨x, rfl, hb.cell h2 (by simp; omega)⟩
  have HX' := Lib.hid HX
  clear HX h0 h1 h2
  go_loopw [4, 10] (fun v i wr => ∃ (k j clock : Nat) (l : List Ent) (ys : Nat → C), k ≤ 3 ∧ i = .int .i64 k ∧ Hid (Q3 x y k l j) ∧ OR wr w1.heap.size 25 1 v j ys ∧ Hid (0 < j → ys 0 = ccn x) ∧ Hid (wr.heap[r]? = some (.map (l.map mkE).toArray clock)) ∧ But [r] w1 wr) (fun _ i _ => 3 - (intOf i).toNat)
  case atStart => exact ⟨0, 0, 0, [], fun _ => Z0, by omega, rfl, .inl ⟨rfl, rfl, rfl⟩, OR.nil _ _ _ _ _, fun h => by omega, HM1.out, But.refl _ _⟩
  case round =>
    obtain ⟨k, j, clock, l, ys, hk, rfl, HQ, hor, HY, HM, hbt⟩ := hrel
    by_cases hlt : k < 3
    · obtain ⟨c, hc, hcell⟩ := HX'.out wr k hbt hlt
      have t1 : (k : Int) < 3 := by omega
      have hcw : wf c := by rw [hc]; split <;> assumption
      rcases HQ.out.step hx hy hlt c hc with ⟨hf, hjx, hj2, hQ⟩ | ⟨i, v, hf, hv0, hv2, hj0, hQ⟩
      · have hlk := run_lookup_c c wr r clock l HM.out
        rw [hf] at hlk
        have HF := Lib.hid hf
        have HQ2 := Lib.hid hQ
        have HJX := Lib.hid hjx
        have HC := Lib.hid hc
        clear hf hQ hjx hc
        go_wp2_with (at_builtin; refine wpList_append_rc _ rfl _ _ _ rfl w1.heap.size 25 _ 1 16 Try.underlying34 Try.info25 rfl (by omega) u4 j ys rfl (hor.alloc _) (some ⟨wr.heap.size, 0, none⟩) wr.heap.size 0 1 1 (fun _ => ccn c) rfl (fun _ => rfl) (one_rc wr c.1 c.2 _ hcw rfl) (by omega) (by omega) (by have := hbt.size; simp; omega) ?_; intro v' wE horE hgr hob _; have hmE := (But.of_grown hgr).heap (((But.refl [] wr).alloc _).heap HM.out (by simp)) (fun hm => by have := (hor.lt r (by simpa using hm)).1; omega); have hlkE := run_lookup_c c wE r clock l hmE; rw [HF.out] at hlkE; have hup : (Instr.mapUpdate 132 (.map (some r)) (.complex .f64 c.1 c.2) (.int .i64 1)).run Try.prog wE = .ok () (putM wE r (l ++ [(c, 1, clock)]) (clock + 1)) := run_update_new c wE r clock 1 l hmE HF.out; have hbE : But [r] w1 wE := (hbt.alloc _).grown hgr (fun g hg => .inr (hor.lt g hg).1))
        have hq := putM_but (r := r) (l := l ++ [(c, 1, clock)]) (c2 := clock + 1) (But.refl [r] wE) (.inl (by simp))
        refine ⟨⟨k + 1, j + 1, clock + 1, l ++ [(c, 1, clock)], _, by omega, by go_num, HQ2.out clock, horE.keep hq (fun g hg => by have := (horE.lt g hg).1; simp; omega), fun _ => ?_, putM_heap hmE, hbE.trans hq⟩, by simp [intOf]; omega⟩
        by_cases h0 : j = 0
        · subst h0
          rw [cat_ge (by omega), HJX.out rfl]
        · rw [cat_lt (by omega)]; exact HY.out (by omega)
      · have hlk : (Instr.lookup 132 (.map (some r)) (.complex .f64 c.1 c.2) false).run Try.prog wr = .ok (.int .i64 (v : Int)) wr := by
          have := run_lookup_c c wr r clock l HM.out
          rw [hf] at this
          exact this
        obtain ⟨e, k', nd, he, hk', hup0⟩ := run_update_old c wr r clock (v + 1) l HM.out (i, v) hf
        have hup : (Instr.mapUpdate 132 (.map (some r)) (.complex .f64 c.1 c.2) (.int .i64 ((v : Int) + 1))).run Try.prog wr = .ok () (putM (wr.drewN nd) r (l.set i (k', v + 1, e.2.2)) clock) := hup0
        have hv : ((v : Int) == 0) = false := by simp; omega
        have HQ2 := Lib.hid (hQ e k' he hk')
        have HC := Lib.hid hc
        clear hf hQ hc he hk' hup0
        have hmD : (wr.drewN nd).heap[r]? = some (.map (l.map mkE).toArray clock) := HM.out
        have HMD := Lib.hid hmD
        clear hmD
        go_wp2_with fail
        have hq := putM_but (r := r) (l := l.set i (k', v + 1, e.2.2)) (c2 := clock) ((But.refl [r] wr).drewN nd) (.inl (by simp))
        exact ⟨⟨k + 1, j, clock, l.set i (k', v + 1, e.2.2), ys, by omega, by go_num, HQ2.out, hor.keep hq (fun g hg => by have := (hor.lt g hg).1; simp; omega), HY.out, putM_heap HMD.out, hbt.trans hq⟩, by simp [intOf]; omega⟩
    · obtain rfl : k = 3 := by omega
      have hj : j = n3 x y := by
        rcases HQ.out with h | h | h | h | h
        · omega
        · omega
        · omega
        · omega
        · exact h.2
      subst hj
      go_wp2_with fail
      go_ret
      have hn : 0 < n3 x y := by unfold n3; split <;> (try split) <;> omega
      refine ⟨u4, ys, rfl, hor.base_ (fun g hg => by have := (hor.lt g hg).1; have := HR.out; omega), HY.out hn, hb1.then hbt (fun i hi hm => by have := HR.out; simp at hm; omega)⟩
end Go.Proofs.Ytnmpofjegepmaaa
