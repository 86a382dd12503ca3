/- CascadeLinear: the walk. -/
import Derived.Test.YtnmpofjegepmaaaD1
import Derived.Test.YtnmpofjegepmaaaLin
import Derived.LoopTactic
import Derived.Deep.QuietTactic
import Derived.BigQuiet
import Derived.IntWalk
import Derived.Outline
namespace Go.Proofs.Ytnmpofjegepmaaa
open Go.RowKit Go.Proofs.Ytnmpofjegepmaaa.Fl

/-- A row of int8. -/
def RB (w : World) (b o m : Nat) : Prop := ∀ j, j < m → ∃ x : Int, w.cell? ⟨b, o + j, none⟩ = some (.int .i8 x) ∧ -128 ≤ x ∧ x ≤ 127
theorem RB.keep {w w' : World} {b o m : Nat} {qs : List Nat} (h : RB w b o m) (k : But qs w w') (hb : b ∉ qs) : RB w' b o m := fun j hj => by
  obtain ⟨a, h1, h2⟩ := h j hj
  exact ⟨a, k.cell h1 hb, h2⟩

set_option exponentiation.threshold 4000 in
theorem int_ex (n : Int) (h : n.natAbs < 9007199254740992) : EX (floatOfInt .f64 n) n 1074 := by
  have e : floatOfInt .f64 n = Ieee.double.write (.number (decide (n < 0)) n.natAbs 0) := rfl
  rw [e, write_number]
  have e2 := RN_scale n.natAbs 1074 1074
  rw [show (1074 : Int) - (1074 : Nat) = 0 by rfl] at e2
  rw [show (0 : Int) + 1074 = 1074 by rfl, ← e2]
  refine EX_of (EX_wd _ _ _ h (by omega)) ?_
  unfold sg
  by_cases hn : n < 0
  · simp only [hn, decide_true, if_true]; omega
  · simp only [hn, decide_false]; simp; omega
theorem int_xr (n : Int) (B : Nat) (h : n.natAbs ≤ B) (hB : B < 9007199254740992) : XC (floatOfInt .f64 n, 0) (n, 0) B := ⟨⟨int_ex n (by omega), zero_ex.1.1⟩, h, by simp⟩
theorem int_xi (n : Int) (B : Nat) (h : n.natAbs ≤ B) (hB : B < 9007199254740992) : XC (0, floatOfInt .f64 n) (0, n) B := ⟨⟨zero_ex.1.1, int_ex n (by omega)⟩, by simp, h⟩
theorem XC.wf {x : C} {z : G} {B : Nat} (h : XC x z B) : wf x := ⟨h.1.1.lt, h.1.2.lt⟩
theorem XC.cc {x : C} {z : G} {B : Nat} (h : XC x z B) : ccn x = x := by unfold ccn; rw [h.1.1.cn_, h.1.2.cn_]

/-- A section out of three small numbers. -/
def mkS (x0 x1 x2 : Int) (j : Nat) : C := if j = 0 then (floatOfInt .f64 x0, 0) else if j = 1 then (0, floatOfInt .f64 x1) else if j = 2 then (floatOfInt .f64 x2, 0) else Z0
def mkG (x0 x1 x2 : Int) (j : Nat) : G := if j = 0 then (x0, 0) else if j = 1 then (0, x1) else if j = 2 then (x2, 0) else g0
theorem mk_rc (w : World) (x0 x1 x2 : Int) (h0 : x0.natAbs ≤ 128) (h1 : x1.natAbs ≤ 128) (h2 : x2.natAbs ≤ 128) :
    RC (w.alloc (.cells #[.complex .f64 (floatOfInt .f64 x0) 0, .complex .f64 0 (floatOfInt .f64 x1), .complex .f64 (floatOfInt .f64 x2) 0, .complex .f64 0 0, .complex .f64 0 0] 33)) w.heap.size 0 (1 * 5) (mkS x0 x1 x2) := by
  have a0 := int_xr x0 128 h0 (by omega)
  have a1 := int_xi x1 128 h1 (by omega)
  have a2 := int_xr x2 128 h2 (by omega)
  intro j hj
  have : j = 0 ∨ j = 1 ∨ j = 2 ∨ j = 3 ∨ j = 4 := by omega
  rcases this with rfl | rfl | rfl | rfl | rfl
  · exact ⟨(floatOfInt .f64 x0, 0), by simp [go_sem, V], a0.wf, a0.cc⟩
  · exact ⟨(0, floatOfInt .f64 x1), by simp [go_sem, V], a1.wf, a1.cc⟩
  · exact ⟨(floatOfInt .f64 x2, 0), by simp [go_sem, V], a2.wf, a2.cc⟩
  · exact ⟨Z0, by simp [go_sem, V, Z0], by simp [Go.Proofs.Ytnmpofjegepmaaa.wf, Z0], by show ccn Z0 = Z0; decide⟩
  · exact ⟨Z0, by simp [go_sem, V, Z0], by simp [Go.Proofs.Ytnmpofjegepmaaa.wf, Z0], by show ccn Z0 = Z0; decide⟩
theorem cons_ok {n : Nat} {Sc : Nat → C} {Sg : Nat → G} (h : SecOK n Sc Sg) (x0 x1 x2 : Int) (h0 : x0.natAbs ≤ 128) (h1 : x1.natAbs ≤ 128) (h2 : x2.natAbs ≤ 128) :
    SecOK (n + 1) (cat (n * 5) Sc (mkS x0 x1 x2)) (fun j => if j < n * 5 then Sg j else mkG x0 x1 x2 (j - n * 5)) := by
  intro i hi
  by_cases hin : i < n
  · obtain ⟨⟨a, b, c⟩, d, e⟩ := h i hin
    rw [cat_lt (by omega), cat_lt (by omega), cat_lt (by omega), cat_lt (by omega), cat_lt (by omega)]
    simp only [show i * 5 < n * 5 by omega, show i * 5 + 1 < n * 5 by omega, show i * 5 + 2 < n * 5 by omega, if_true]
    exact ⟨⟨a, b, c⟩, d, e⟩
  · obtain rfl : i = n := by omega
    rw [cat_ge (by omega), cat_ge (by omega), cat_ge (by omega), cat_ge (by omega), cat_ge (by omega)]
    simp only [show ¬ i * 5 < i * 5 by omega, show ¬ i * 5 + 1 < i * 5 by omega, show ¬ i * 5 + 2 < i * 5 by omega, if_false, Nat.sub_self, Nat.add_sub_cancel_left]
    exact ⟨⟨int_xr x0 128 h0 (by omega), int_xi x1 128 h1 (by omega), int_xr x2 128 h2 (by omega)⟩, zero_ex, zero_ex⟩

theorem fb_add {x y : Nat} (hx : fin x) (hy : fin y) : floatBits .add .f64 x y = some (N2 .add x y) := by
  have h : floatBits .add .f64 x y = some _ := add_fin hx hy
  rw [h, N2_of h]
theorem csum_fin {P : Program} {a b c d : Nat} (t : TypeId) (ha : fin a) (hb : fin b) (hc : fin c) (hd : fin d) (w : World) :
    (binOp .add t (.complex .f64 a b) (.complex .f64 c d)).run P w = .ok (.complex .f64 (N2 .add a c) (N2 .add b d)) w := by
  have h1 : (Op.Complex.arith .add .f64 a c).run P w = .ok (N2 .add a c) w := by simp [Op.Complex.arith, run_floatArith w (fb_add ha hc)]
  have h2 : (Op.Complex.arith .add .f64 b d).run P w = .ok (N2 .add b d) w := by simp [Op.Complex.arith, run_floatArith w (fb_add hb hd)]
  simp [binOp, Op.complexOp, h1, h2]
theorem one_rc (w : World) (a b : Nat) (x : C) (h : wf (a, b)) (hx : ccn (a, b) = x) : RC (w.alloc (.cells #[.complex .f64 a b] 25)) w.heap.size 0 (1 * 1) (fun _ => x) := by
  intro j hj
  obtain rfl : j = 0 := by omega
  exact ⟨(a, b), by simp [go_sem, V], h, hx⟩
theorem OR.grown {w w' : World} {base t size n : Nat} {v : Value} {xs : Nat → C} {row : Option Nat} (h : OR w base t size v n xs) (hg : w.grownBy w' row) (hne : v.ownBlock ≠ row ∨ v.ownBlock = none) : OR w' base t size v n xs := by
  obtain ⟨vs, h1, h2⟩ := h
  exact ⟨vs, h1.kept hg hne.symm, h2⟩
theorem OR.alloc {w : World} {base t size n : Nat} {v : Value} {xs : Nat → C} (h : OR w base t size v n xs) (o : Obj) : OR (w.alloc o) base t size v n xs := by
  obtain ⟨vs, h1, h2⟩ := h
  exact ⟨vs, h1.alloc o, h2⟩
theorem OR.drewN {w : World} {base t size n : Nat} {v : Value} {xs : Nat → C} (h : OR w base t size v n xs) (k : Nat) : OR (w.drewN k) base t size v n xs := h
theorem OR.shape {w : World} {base t size n : Nat} {v : Value} {xs : Nat → C} (h : OR w base t size v n xs) (hp : 0 < w.heap.size) : ∃ A g c, v = .slice A n c ∧ (0 < n → A = some ⟨g, 0, none⟩) ∧ RC w g 0 (n * size) xs ∧ g < w.heap.size := by
  rcases h.form with ⟨rfl, rfl⟩ | ⟨g, c, rfl, _, _, ho⟩
  · exact ⟨none, w.heap.size - 1, 0, rfl, fun h => by omega, fun j hj => by simp at hj, by omega⟩
  · exact ⟨_, g, c, rfl, fun _ => rfl, ho.rc, ho.lt⟩
theorem order_some {x y : Nat} {a : Int} {k : Nat} (hx : EX x a k) (hy : EX y a k) : FloatKind.f64.format.order x y = some Ordering.eq := by
  have := order_ex hx hy
  simpa using this
theorem finC_ex {x : C} {z : G} {B : Nat} (h : XC x z B) : FinC x := by
  unfold FinC; rw [finB_eq, decide_eq_true h.1.1.1.2, decide_eq_true h.1.2.1.2]; rfl
theorem fin_sec {n : Nat} {Sc : Nat → C} {Sg : Nat → G} (h : SecOK n Sc Sg) : ∀ j, j < n * 5 → FinC (Sc j) := by
  intro j hj
  obtain ⟨⟨a, b, c⟩, d, e⟩ := h (j / 5) (by omega)
  have : j = j / 5 * 5 ∨ j = j / 5 * 5 + 1 ∨ j = j / 5 * 5 + 2 ∨ j = j / 5 * 5 + 3 ∨ j = j / 5 * 5 + 4 := by omega
  rcases this with h | h | h | h | h <;> rw [h]
  · exact finC_ex a
  · exact finC_ex b
  · exact finC_ex c
  · exact finC_ex d
  · exact finC_ex e
theorem or_of {m : Nat} {A B : Option Addr} (h : 0 < m → A = B) : m = 0 ∨ (0 < m ∧ A = B) := by
  rcases Nat.eq_zero_or_pos m with h0 | h0
  · exact .inl h0
  · exact .inr ⟨h0, h h0⟩
theorem zz_rc (w : World) : RC (w.alloc (.cells #[.complex .f64 0 0, .complex .f64 0 0] 25)) w.heap.size 0 (2 * 1) (fun _ => Z0) := by
  intro j hj
  have : j = 0 ∨ j = 1 := by omega
  rcases this with rfl | rfl
  · exact ⟨Z0, by simp [go_sem, V, Z0], by simp [wf, Z0], by decide⟩
  · exact ⟨Z0, by simp [go_sem, V, Z0], by simp [wf, Z0], by decide⟩
theorem ccn_xc {y v : C} {z : G} {B : Nat} (h : ccn y = v) (hv : XC v z B) : y = v := by
  obtain ⟨v1, v2⟩ := v
  exact ccn_eq h (fin_nan hv.1.1.1) (fin_nan hv.1.2.1)
/-- A row of whole numbers. -/
theorem rowXC {w : World} {b m B : Nat} {xs : Nat → C} {zs : Nat → G} (h : OC w b 25 m xs) (hx : ∀ i, i < m → XC (xs i) (zs i) B) : ∀ i, i < m → w.cell? ⟨b, i, none⟩ = some (.complex .f64 (xs i).1 (xs i).2) ∧ XC (xs i) (zs i) B := fun i hi => by
  obtain ⟨a, h1, _, h3⟩ := h.rc.one i hi
  rw [ccn_xc h3 (hx i hi)] at h1
  exact ⟨h1, hx i hi⟩
/-- Two slice values over two blocks. -/
def Apart (v u : Value) : Prop := v.ownBlock ≠ u.ownBlock ∨ v.ownBlock = none
theorem Apart.symm {v u : Value} (h : Apart v u) : Apart u v := by
  unfold Apart at *
  rcases h with h | h
  · exact .inl (Ne.symm h)
  · by_cases hu : u.ownBlock = none
    · exact .inr hu
    · exact .inl (by rw [h]; exact hu)
theorem Apart.grow {v v' u : Value} {n : Nat} (h : Apart v u) (hv : v'.ownBlock = v.ownBlock ∨ v'.ownBlock = some n) (hu : ∀ g, u.ownBlock = some g → g < n) : Apart v' u := by
  unfold Apart at *
  rcases hv with hv | hv
  · rw [hv]; exact h
  · refine .inl fun e => ?_
    have := hu n (by rw [← e, hv])
    omega
/-- What has been gathered: of the first list, of the second, of the sums. -/
def Gath (j : Nat) (xs ys zs : Nat → C) (xg yg : Nat → G) : Prop := ∀ i, i < j → XC (xs i) (xg i) 128 ∧ XC (ys i) (yg i) 128 ∧ XC (zs i) (gadd (xg i) (yg i)) 128
theorem Gath.more {j : Nat} {xs ys zs : Nat → C} {xg yg : Nat → G} (h : Gath j xs ys zs xg yg) {p q r : C} {pg qg : G} (h1 : XC p pg 128) (h2 : XC q qg 128) (h3 : XC r (gadd pg qg) 128) :
    Gath (j + 1) (cat (j * 1) xs fun _ => p) (cat (j * 1) ys fun _ => q) (cat (j * 1) zs fun _ => r) (fun i => if i < j then xg i else pg) (fun i => if i < j then yg i else qg) := by
  intro i hi
  by_cases hij : i < j
  · rw [cat_lt (by omega), cat_lt (by omega), cat_lt (by omega)]
    simp only [hij, if_true]; exact h i hij
  · rw [cat_ge (by omega), cat_ge (by omega), cat_ge (by omega)]
    simp only [hij, if_false]; exact ⟨h1, h2, h3⟩

theorem late_ex {j : Nat} {xs ys zs : Nat → C} {xg yg : Nat → G} (h : Gath j xs ys zs xg yg) (t : Nat) (ht : t < j + 2) : XC (cat ((0 + 2) * 1) (cat (0 * 1) (fun _ => Z0) fun _ => Z0) xs t) (gLate xg t) 128 := by
  by_cases h2 : t < 2
  · rw [cat_lt (by omega), cat_ge (by omega)]
    unfold gLate; rw [if_pos h2]; exact zero_ex.mono (by omega)
  · rw [cat_ge (by omega)]
    unfold gLate; rw [if_neg h2]; exact (h _ (by omega)).1

set_option linter.unusedSimpArgs false in
set_option maxHeartbeats 1000000 in
set_option maxRecDepth 100000 in
theorem lin_any (bb bo nb kb ub uo nu ku vb vo nv kv : Nat) (B U V_ : Option Addr) (w : World) (hB : 0 < nb → B = some ⟨bb, bo, none⟩) (hU : 0 < nu → U = some ⟨ub, uo, none⟩) (hV : 0 < nv → V_ = some ⟨vb, vo, none⟩)
    (hb : RB w bb bo (nb * 3)) (hu : RB w ub uo nu) (hv : RB w vb vo nv) (mb : nb ≤ 9223372036854775807) (mu : nu ≤ 9223372036854775807) (mv : nv ≤ 9223372036854775807) :
    Calls Try.prog 3 #[.slice B nb kb, .slice U nu ku, .slice V_ nv kv] w fun e w' => e = .returned (.bool true) ∧ But [] w w' := by
  have HB := Lib.hid hB
  have HU := Lib.hid hU
  have HV := Lib.hid hV
  clear hB hU hV
  obtain ⟨M, hM, hMu, hMv⟩ : ∃ M : Nat, (if nv < nu then (nv : Int) else (nu : Int)) = (M : Int) ∧ M ≤ nu ∧ M ≤ nv := by
    by_cases h : nv < nu
    · exact ⟨nv, by rw [if_pos h], by omega, by omega⟩
    · exact ⟨nu, by rw [if_neg h], by omega, by omega⟩
  obtain ⟨N, hN, hNu, hNv, hN12⟩ : ∃ N : Nat, (if (12 : Int) < (M : Int) then (12 : Int) else (M : Int)) = (N : Int) ∧ N ≤ nu ∧ N ≤ nv ∧ N ≤ 12 := by
    by_cases h : (12 : Int) < (M : Int)
    · exact ⟨12, by rw [if_pos h]; rfl, by omega, by omega, by omega⟩
    · exact ⟨M, by rw [if_neg h], by omega, by omega, by omega⟩
  go_enter Try.func3, Try.ntmps3
  go_wp2_with fail
  refine (awake17_any _).mono ?_
  rintro e w1 ⟨rfl, hb1⟩
  obtain ⟨w2, hw2, hb2, hblk, hs2⟩ : ∃ w2, w1.alloc (.cells #[.complex .f64 4607182418800017408 0, .slice none 0 0] 28) = w2 ∧ But [] w1 w2 ∧ w2.heap[w1.heap.size]? = some (.cells #[.complex .f64 4607182418800017408 0, .slice none 0 0] 28 (0, 0)) ∧ w2.heap.size = w1.heap.size + 1 :=
    ⟨_, rfl, (But.refl _ _).alloc _, heap_alloc_new _ _, by simp⟩
  have HW2 := Lib.hid hw2
  clear hw2
  go_wp2_with fail
  rw [HW2.out]
  clear HW2
  generalize hF : w1.heap.size = F at *
  have HF := Lib.hid hF
  have HS2 := Lib.hid hs2
  clear hF hs2
  go_loopw [28] (fun i wr => ∃ (k : Nat) (v : Value) (Sc : Nat → C) (Sg : Nat → G), k ≤ nb ∧ i = .int .i64 k ∧ But [F] w2 wr ∧ wr.heap[F]? = some (.cells #[.complex .f64 4607182418800017408 0, v] 28 (0, 0)) ∧ OR wr (F + 1) 33 5 v (min k 3) Sc ∧ SecOK (min k 3) Sc Sg) (fun i _ => nb - (intOf i).toNat)
  case atStart => exact ⟨0, .slice none 0 0, fun _ => Z0, fun _ => g0, Nat.zero_le _, rfl, But.refl _ _, hblk, OR.nil _ _ _ _ _, fun i hi => by simp at hi⟩
  case round =>
    obtain ⟨k, v, Sc, Sg, hk, rfl, hbut, hfb, hor, hsec⟩ := hrel
    by_cases hlt : k < nb
    · obtain rfl := HB.out (by omega)
      have hbl : bb < w.heap.size := by
        obtain ⟨_, h, _⟩ := hb 0 (by omega)
        exact World.block_lt_of_cell? _ _ h
      have s1 := hb1.size
      have hbF : bb ≠ F := by have := HF.out; omega
      have hb' := ((hb.keep hb1 (by simp)).keep hb2 (by simp)).keep hbut (by simpa using hbF)
      obtain ⟨x0, hx0, l0, u0⟩ := hb' (k * 3) (by omega)
      obtain ⟨x1, hx1, l1, u1⟩ := hb' (k * 3 + 1) (by omega)
      obtain ⟨x2, hx2, l2, u2⟩ := hb' (k * 3 + 2) (by omega)
      clear hb'
      simp only [← Nat.add_assoc] at hx1 hx2
      obtain ⟨w3, hw3, hb3, hd0, hd1, hd2⟩ : ∃ w3, wr.alloc (.cells #[.int .i8 x0, .int .i8 x1, .int .i8 x2] 30) = w3 ∧ But [] wr w3 ∧ w3.cell? ⟨wr.heap.size, 0, none⟩ = some (.int .i8 x0) ∧ w3.cell? ⟨wr.heap.size, 1, none⟩ = some (.int .i8 x1) ∧ w3.cell? ⟨wr.heap.size, 2, none⟩ = some (.int .i8 x2) :=
        ⟨_, rfl, (But.refl _ _).alloc _, by simp [go_sem], by simp [go_sem], by simp [go_sem]⟩
      have hfb3 := hb3.heap hfb (by simp)
      have hor3 := hor.keep hb3 (by simp)
      have hF1 : w3.cell? ⟨F, 1, none⟩ = some v := by rw [cell_of_row w3 F 1 _ _ _ hfb3]; rfl
      have hFz : w3.frozen? ⟨F, 1, none⟩ = false := blk_free hfb3
      have HFB := Lib.hid hfb3
      clear hfb hfb3
      by_cases h3 : k < 3
      · have hrc4 := mk_rc w3 x0 x1 x2 (by omega) (by omega) (by omega)
        have hor4 := hor3.keep ((But.refl [] w3).alloc (.cells #[.complex .f64 (floatOfInt .f64 x0) 0, .complex .f64 0 (floatOfInt .f64 x1), .complex .f64 (floatOfInt .f64 x2) 0, .complex .f64 0 0, .complex .f64 0 0] 33)) (by simp)
        have hFl : F + 1 ≤ w3.heap.size + 1 := by have := (Array.getElem?_eq_some_iff.1 HFB.out).1; omega
        have hFl3 : F < w3.heap.size := (Array.getElem?_eq_some_iff.1 HFB.out).1
        go_wp2_with (at_builtin; refine wpList_append_rc _ rfl _ _ _ rfl (F + 1) 33 _ 5 80 Try.underlying26 Try.info33 rfl (by omega) v (min k 3) Sc rfl hor4 (some ⟨w3.heap.size, 0, none⟩) w3.heap.size 0 1 1 (mkS x0 x1 x2) rfl (fun _ => rfl) hrc4 (by omega) (by omega) (by simp; omega) ?_; intro v' w4 hor5 hgr hob hnn; have hb4 : But [F] w2 w4 := ((hbut.trans (hb3.weak (by simp))).alloc _).grown hgr (fun g hg => .inr (by have := (hor3.lt g hg).1; have := HS2.out; omega)); have hfb4 := (hgr.block F (by simp; omega) (fun e => by have := (hor3.lt F e.symm).1; omega)).trans ((Below.heap_alloc w3 _ F hFl3).trans HFB.out); have hF4 : w4.cell? ⟨F, 1, none⟩ = some v := (by rw [cell_of_row w4 F 1 _ _ _ hfb4]; rfl); have hFz4 : w4.frozen? ⟨F, 1, none⟩ = false := blk_free hfb4; have HFB4 := Lib.hid hfb4; clear hfb4; obtain ⟨vg, vk, rfl, hvb, hvk, _⟩ : ∃ g cap, v' = .slice (some ⟨g, 0, none⟩) (min k 3 + 1) cap ∧ F + 1 ≤ g ∧ min k 3 + 1 ≤ cap ∧ OC w4 g 33 ((min k 3 + 1) * 5) (cat (min k 3 * 5) Sc (mkS x0 x1 x2)) := hor5.form.resolve_left (fun h => by have := h.2; omega))
        go_roundw
        case rel =>
          refine ⟨k + 1, _, cat (min k 3 * 5) Sc (mkS x0 x1 x2), (fun j => if j < min k 3 * 5 then Sg j else mkG x0 x1 x2 (j - min k 3 * 5)), by omega, by go_num, hb4.setCell _ _ (.inl (by simp)), blk_set _ _ _ _ _ _ HFB4.out, ?_, ?_⟩
          · rw [show min (k + 1) 3 = min k 3 + 1 by omega]
            exact hor5.keep ((But.refl [F] w4).setCell _ _ (.inl (by simp))) (fun g hg => by simp [Value.ownBlock] at hg; simp; omega)
          · rw [show min (k + 1) 3 = min k 3 + 1 by omega]
            exact cons_ok hsec x0 x1 x2 (by omega) (by omega) (by omega)
        case measure => simp [intOf]; omega
      · have hk3 : decide ((k : Int) < 3) = false := by simp; omega
        go_wp2
        go_roundw
        case rel =>
          refine ⟨k + 1, v, Sc, Sg, by omega, by go_num, hbut.trans (hb3.weak (by simp)), HFB.out, ?_, ?_⟩
          · rw [show min (k + 1) 3 = min k 3 by omega]; exact hor3
          · rw [show min (k + 1) 3 = min k 3 by omega]; exact hsec
        case measure => simp [intOf]; omega
    · go_wp2_with fail
      clear hM hN hMu hMv
      generalize hn : min k 3 = n at *
      have hn3 : n ≤ 3 := by omega
      have hFl : F < wr.heap.size := (Array.getElem?_eq_some_iff.1 hfb).1
      have hu1 := ((hu.keep hb1 (by simp)).keep hb2 (by simp)).keep hbut
      have hv1 := ((hv.keep hb1 (by simp)).keep hb2 (by simp)).keep hbut
      have hul' : 0 < nu → ub < w.heap.size := fun h => by
        obtain ⟨_, h1, _⟩ := hu 0 h
        exact World.block_lt_of_cell? _ _ h1
      have hvl' : 0 < nv → vb < w.heap.size := fun h => by
        obtain ⟨_, h1, _⟩ := hv 0 h
        exact World.block_lt_of_cell? _ _ h1
      clear hlt hk hn HB hb hu hv hblk
      generalize hB2 : wr.heap.size = B2 at *
      have HB2 := Lib.hid hB2
      have HFB := Lib.hid hfb
      clear hB2 hfb
      obtain ⟨wo, rfl⟩ : ∃ wo : World, wo = wr := ⟨_, rfl⟩
      go_loopw [11, 12, 13, 60] (fun vx vy vz i wq => ∃ (j : Nat) (xs ys zs : Nat → C) (xg yg : Nat → G), j ≤ N ∧ i = .int .i64 j ∧ But [] wo wq ∧ OR wq B2 25 1 vx j xs ∧ OR wq B2 25 1 vy j ys ∧ OR wq B2 25 1 vz j zs ∧ Apart vx vy ∧ Apart vx vz ∧ Apart vy vz ∧ Gath j xs ys zs xg yg) (fun _ _ _ i _ => N - (intOf i).toNat)
      case atStart => exact ⟨0, fun _ => Z0, fun _ => Z0, fun _ => Z0, fun _ => g0, fun _ => g0, Nat.zero_le _, rfl, But.refl _ _, OR.nil _ _ _ _ _, OR.nil _ _ _ _ _, OR.nil _ _ _ _ _, .inr rfl, .inr rfl, .inr rfl, fun i hi => by omega⟩
      case round =>
        obtain ⟨j, xs, ys, zs, xg, yg, hj, rfl, hbq, hox, hoy, hoz, hxy, hxz, hyz, hga⟩ := hrel
        by_cases hlt : j < N
        · obtain rfl := HU.out (by omega)
          obtain rfl := HV.out (by omega)
          have hul := hul' (by omega)
          have hvl := hvl' (by omega)
          have s1 := hb1.size
          have hF := HF.out
          obtain ⟨a, ha, la, ma⟩ := ((hu1 (by simp; omega)).keep hbq (by simp)) j (by omega)
          obtain ⟨b, hb, lb, mb'⟩ := ((hv1 (by simp; omega)).keep hbq (by simp)) j (by omega)
          have ta : ((j : Nat) : Int) < nu := by omega
          have tb : ((j : Nat) : Int) < nv := by omega
          have hp := int_xr a 128 (by omega) (by omega)
          have hq := int_xi b 128 (by omega) (by omega)
          have hr : XC (N2 .add (floatOfInt .f64 a) 0, N2 .add 0 (floatOfInt .f64 b)) (gadd (a, 0) (0, b)) 128 := ⟨(cadd_ex hp hq (by omega)).1, by simp [gadd]; omega, by simp [gadd]; omega⟩
          have hsum : ∀ W, (binOp .add 25 (.complex .f64 (floatOfInt .f64 a) 0) (.complex .f64 0 (floatOfInt .f64 b))).run Try.prog W = .ok (.complex .f64 (N2 .add (floatOfInt .f64 a) 0) (N2 .add 0 (floatOfInt .f64 b))) W := fun W => csum_fin 25 hp.1.1.1 hp.1.2.1 hq.1.1.1 hq.1.2.1 W
          go_wp2_with fail
          go_quiet (fail)
          clear ha hb ta tb hu1 hv1
          replace hbq := hbq.drewN nq
          replace hox := hox.drewN nq
          replace hoy := hoy.drewN nq
          replace hoz := hoz.drewN nq
          generalize wr.drewN nq = wd at *
          have szd := hbq.size
          have hB2 := HB2.out
          have tok1 : True := trivial
          have tok2 : True := trivial
          have tok3 : True := trivial
          go_wp2_with (first
            | (at_builtin; have _t := tok1; refine wpList_append_rc _ rfl _ _ _ rfl B2 25 _ 1 16 Try.underlying34 Try.info25 rfl (by omega) u11 j xs rfl (hox.alloc _) (some ⟨wd.heap.size, 0, none⟩) wd.heap.size 0 1 1 (fun _ => (floatOfInt .f64 a, 0)) rfl (fun _ => rfl) (one_rc wd _ _ (floatOfInt .f64 a, 0) hp.wf hp.cc) (by omega) (by omega) (by simp; omega) ?_; intro v4 w4' hor4 hgr4 hob4 _; clear tok1; have hoy4 := (hoy.alloc _).grown hgr4 hxy.symm; have hoz4 := (hoz.alloc _).grown hgr4 hxz.symm; have hbq4 : But [] wo w4' := (hbq.alloc _).grown hgr4 (fun g hg => .inr (by have := (hox.lt g hg).1; have := HB2.out; omega)); have hxy4 : Apart v4 u12 := hxy.grow hob4 (fun g hg => by have := (hoy.lt g hg).2; simp; omega); have hxz4 : Apart v4 u13 := hxz.grow hob4 (fun g hg => by have := (hoz.lt g hg).2; simp; omega); have sz4 := hbq4.size; clear hgr4 hob4)
            | (at_builtin; have _t := tok2; refine wpList_append_rc _ rfl _ _ _ rfl B2 25 _ 1 16 Try.underlying34 Try.info25 rfl (by omega) u12 j ys rfl (hoy4.alloc _) (some ⟨w4'.heap.size, 0, none⟩) w4'.heap.size 0 1 1 (fun _ => (0, floatOfInt .f64 b)) rfl (fun _ => rfl) (one_rc w4' _ _ (0, floatOfInt .f64 b) hq.wf hq.cc) (by omega) (by omega) (by simp; omega) ?_; intro v5 w5' hor5 hgr5 hob5 _; clear tok2; have hox5 := (hor4.alloc _).grown hgr5 hxy4; have hoz5 := (hoz4.alloc _).grown hgr5 hyz.symm; have hbq5 : But [] wo w5' := (hbq4.alloc _).grown hgr5 (fun g hg => .inr (by have := (hoy4.lt g hg).1; have := HB2.out; omega)); have hxy5 : Apart v4 v5 := (hxy4.symm.grow hob5 (fun g hg => by have := (hor4.lt g hg).2; simp; omega)).symm; have hyz5 : Apart v5 u13 := hyz.grow hob5 (fun g hg => by have := (hoz4.lt g hg).2; simp; omega); have sz5 := hbq5.size; clear hgr5 hob5)
            | (at_builtin; have _t := tok3; refine wpList_append_rc _ rfl _ _ _ rfl B2 25 _ 1 16 Try.underlying34 Try.info25 rfl (by omega) u13 j zs rfl (hoz5.alloc _) (some ⟨w5'.heap.size, 0, none⟩) w5'.heap.size 0 1 1 (fun _ => (N2 .add (floatOfInt .f64 a) 0, N2 .add 0 (floatOfInt .f64 b))) rfl (fun _ => rfl) (one_rc w5' _ _ (N2 .add (floatOfInt .f64 a) 0, N2 .add 0 (floatOfInt .f64 b)) hr.wf hr.cc) (by omega) (by omega) (by simp; omega) ?_; intro v6 w6' hor6 hgr6 hob6 _; clear tok3; have hox6 := (hox5.alloc _).grown hgr6 hxz4; have hoy6 := (hor5.alloc _).grown hgr6 hyz5; have hbq6 : But [] wo w6' := (hbq5.alloc _).grown hgr6 (fun g hg => .inr (by have := (hoz5.lt g hg).1; have := HB2.out; omega)); have hxz6 : Apart v4 v6 := (hxz4.symm.grow hob6 (fun g hg => by have := (hox5.lt g hg).2; simp; omega)).symm; have hyz6 : Apart v5 v6 := (hyz5.symm.grow hob6 (fun g hg => by have := (hor5.lt g hg).2; simp; omega)).symm; clear hgr6 hob6))
          go_roundw
          case rel => exact ⟨j + 1, _, _, _, _, _, by omega, by go_num, hbq6, hox6, hoy6, hor6, hxy5, hxz6, hyz6, hga.more hp hq hr⟩
          case measure => simp [intOf]; omega
        · obtain rfl : j = N := by omega
          clear HU HV hu1 hv1 hlt hj
          have hF := HF.out
          have szo := hbq.size
          have hB2 := HB2.out
          have hpos : 0 < wr.heap.size := by omega
          obtain ⟨A, gA, cA, rfl, hA, hArc, hgA⟩ := hor.shape (by omega)
          obtain ⟨AX, gX, cX, rfl, hAX, hXrc0, hgX⟩ := hox.shape hpos
          obtain ⟨AY, gY, cY, rfl, hAY, hYrc0, hgY⟩ := hoy.shape hpos
          obtain ⟨AZ, gZ, cZ, rfl, hAZ, hZrc0, hgZ⟩ := hoz.shape hpos
          rw [Nat.mul_one] at hXrc0 hYrc0 hZrc0
          have tok1 : True := trivial
          have tok2 : True := trivial
          have hfb := hbq.heap HFB.out (by simp)
          clear hox hoy hoz hxy hxz hyz
          have HAX := Lib.hid hAX
          have HAY := Lib.hid hAY
          have HAZ := Lib.hid hAZ
          have HA := Lib.hid hA
          have HFQ := Lib.hid hfb
          clear hAX hAY hAZ hA hfb
          go_wp2_with (first
            | (at_builtin; have _t := tok1; refine wpList_append_rc _ rfl _ _ _ rfl wr.heap.size 25 _ 1 16 Try.underlying34 Try.info25 rfl (by omega) (.slice none 0 0) 0 (fun _ => Z0) rfl (OR.nil _ _ _ _ _) (some ⟨wr.heap.size, 0, none⟩) wr.heap.size 0 2 2 (fun _ => Z0) rfl (fun _ => rfl) (zz_rc wr) (by omega) (by omega) (by simp) ?_; intro v7 w7 hor7 hgr7 hob7 _; clear tok1; have hb7 : But [] wr w7 := ((But.refl _ _).alloc _).grown hgr7 (fun g hg => by simp [Value.ownBlock] at hg); have hX7 := hXrc0.keep hb7 (by simp); have sz7 := hb7.size)
            | (at_builtin; have _t := tok2; refine wpList_append_rc _ rfl _ _ _ rfl wr.heap.size 25 _ 1 16 Try.underlying34 Try.info25 rfl (by omega) v7 (0 + 2) _ rfl hor7 AX gX 0 j cX xs rfl HAX.out (by rw [Nat.mul_one]; exact hX7) (by omega) (by omega) (by omega) ?_; intro v8 wL hor8 hgr8 hob8 _; clear tok2; have hb8 : But [] wr wL := hb7.grown hgr8 (fun g hg => .inr (by have := (hor7.lt g hg).1; omega))))
          have hfbL := hb8.heap HFQ.out (by simp)
          have hF0 : wL.cell? ⟨F, 0, none⟩ = some (.complex .f64 4607182418800017408 0) := by rw [cell_of_row wL F 0 _ _ _ hfbL]; rfl
          have hF1 : wL.cell? ⟨F, 1, none⟩ = some (.slice A n cA) := by rw [cell_of_row wL F 1 _ _ _ hfbL]; rfl
          have hArcL := (hArc.keep hbq (by simp)).keep hb8 (by simp)
          have hXrc := hXrc0.keep hb8 (by simp)
          have hYrc := hYrc0.keep hb8 (by simp)
          have hZrc := hZrc0.keep hb8 (by simp)
          have sz8 := hb8.size
          rw [show 0 + 2 + j = j + 2 by omega] at hor8
          obtain ⟨AL, gL, cL, rfl, hAL, hLrc, hgL⟩ := hor8.shape (by omega)
          rw [Nat.mul_one] at hLrc
          have HAL := Lib.hid hAL
          clear hfbL HFQ hArc hXrc0 hYrc0 hZrc0 hAL hb7 hX7 hor7 hgr7 hob7 hor8 hgr8 hob8 hor HFB
          refine wp_region_noPanic ?_
          refine wp_region_held_drew (S := fun w' => But [] wL w' ∧ w'.cell? ⟨F, 0, none⟩ = some (.complex .f64 4607182418800017408 0) ∧ w'.cell? ⟨F, 1, none⟩ = some (.slice A n cA)) (by kernel_rfl) ?_ (fun hHeld => ?_)
          · (try dsimp only); exact ⟨(But.refl _ _).drew, hF0, hF1⟩
          (refine wpAnyH_take (i := 0) (oi := _) (v := _) rfl (by decide +kernel) (by decide +kernel) (by decide +kernel) (fun _ _ _ h => h) (Or.inl ⟨by rfl, by (intro w hSw; (try dsimp only at hSw); go_simp; try with_reducible rfl)⟩) (by assumption) ?_; (try simp only [Act.put, List.setIfInBounds_toArray, List.set_cons_zero, List.set_cons_succ, List.getElem_toArray, List.getElem_cons_succ, List.getElem_cons_zero]))
          (refine wpAnyH_take (i := 1) (oi := _) (v := _) rfl (by decide +kernel) (by decide +kernel) (by decide +kernel) (fun _ _ _ h => h) (Or.inl ⟨by rfl, by (intro w hSw; (try dsimp only at hSw); go_simp; try with_reducible rfl)⟩) (by assumption) ?_; (try simp only [Act.put, List.setIfInBounds_toArray, List.set_cons_zero, List.set_cons_succ, List.getElem_toArray, List.getElem_cons_succ, List.getElem_cons_zero]))
          (refine wpAnyH_take (i := 3) (oi := _) (v := _) rfl (by decide +kernel) (by decide +kernel) (by decide +kernel) (fun _ _ _ h => h) (Or.inl ⟨by rfl, by (intro w hSw; (try dsimp only at hSw); go_simp; try with_reducible rfl)⟩) (by assumption) ?_; (try simp only [Act.put, List.setIfInBounds_toArray, List.set_cons_zero, List.set_cons_succ, List.getElem_toArray, List.getElem_cons_succ, List.getElem_cons_zero]))
          (refine wpAnyH_take (i := 4) (oi := _) (v := _) rfl (by decide +kernel) (by decide +kernel) (by decide +kernel) (fun _ _ _ h => h) (Or.inl ⟨by rfl, by (intro w hSw; (try dsimp only at hSw); go_simp; try with_reducible rfl)⟩) (by assumption) ?_; (try simp only [Act.put, List.setIfInBounds_toArray, List.set_cons_zero, List.set_cons_succ, List.getElem_toArray, List.getElem_cons_succ, List.getElem_cons_zero]))
          (refine wpAnyH_take (i := 6) (oi := _) (v := _) rfl (by decide +kernel) (by decide +kernel) (by decide +kernel) (fun _ _ _ h => h) (Or.inl ⟨by rfl, by (intro w hSw; (try dsimp only at hSw); go_simp; try with_reducible rfl)⟩) (by assumption) ?_; (try simp only [Act.put, List.setIfInBounds_toArray, List.set_cons_zero, List.set_cons_succ, List.getElem_toArray, List.getElem_cons_succ, List.getElem_cons_zero]))
          (refine wpAnyH_take (i := 7) (oi := _) (v := _) rfl (by decide +kernel) (by decide +kernel) (by decide +kernel) (fun _ _ _ h => h) (Or.inl ⟨by rfl, by (intro w hSw; (try dsimp only at hSw); go_simp; try with_reducible rfl)⟩) (by assumption) ?_; (try simp only [Act.put, List.setIfInBounds_toArray, List.set_cons_zero, List.set_cons_succ, List.getElem_toArray, List.getElem_cons_succ, List.getElem_cons_zero]))
          refine wpAnyH_ready (rs := [2]) (by decide +kernel) (by simp) ?_
          refine AllReadyH.cons (o := _) rfl (fun K hK => ?_) AllReadyH.nil
          go_simp; go_at_call 13; refine (answers_any ONE ONE n gA 0 cA A Sc _ (by decide) (by simp [wf, ONE]) (finC_ex one_ex) (by omega) HA.out (hArcL.keep hHeld.1 (by simp)) (fin_sec hsec) j gX 0 cX AX (or_of HAX.out) (by omega) xs (hXrc.keep hHeld.1 (by simp)) (by have := hHeld.1.size; omega)).mono ?_; rintro e wA1 ⟨bA1, rfl, hbl1, hoA1, hbA1⟩; have hbL1 := hHeld.1.trans hbA1; go_wp2_with fail
          refine hK.out _ _ (by (try dsimp only); exact ⟨hbL1, hbL1.cell hF0 (by simp), hbL1.cell hF1 (by simp)⟩) (fun hNew => ?_); clear hK K; clear hHeld; have hHeld := hNew; clear hNew
          (try simp only [Act.put, List.setIfInBounds_toArray, List.set_cons_zero, List.set_cons_succ, List.getElem_toArray, List.getElem_cons_succ, List.getElem_cons_zero])
          refine wpAnyH_ready (rs := [5]) (by decide +kernel) (by simp) ?_
          refine AllReadyH.cons (o := _) rfl (fun K hK => ?_) AllReadyH.nil
          go_simp; go_at_call 13; refine (answers_any ONE ONE n gA 0 cA A Sc _ (by decide) (by simp [wf, ONE]) (finC_ex one_ex) (by omega) HA.out (hArcL.keep hHeld.1 (by simp)) (fin_sec hsec) j gY 0 cY AY (or_of HAY.out) (by omega) ys (hYrc.keep hHeld.1 (by simp)) (by have := hHeld.1.size; omega)).mono ?_; rintro e wA2 ⟨bA2, rfl, hbl2, hoA2, hbA2⟩; have hbL2 := hHeld.1.trans hbA2; go_wp2_with fail
          refine hK.out _ _ (by (try dsimp only); exact ⟨hbL2, hbL2.cell hF0 (by simp), hbL2.cell hF1 (by simp)⟩) (fun hNew => ?_); clear hK K; clear hHeld; have hHeld := hNew; clear hNew
          (try simp only [Act.put, List.setIfInBounds_toArray, List.set_cons_zero, List.set_cons_succ, List.getElem_toArray, List.getElem_cons_succ, List.getElem_cons_zero])
          refine wpAnyH_ready (rs := [8]) (by decide +kernel) (by simp) ?_
          refine AllReadyH.cons (o := _) rfl (fun K hK => ?_) AllReadyH.nil
          go_simp; go_at_call 13; refine (answers_any ONE ONE n gA 0 cA A Sc _ (by decide) (by simp [wf, ONE]) (finC_ex one_ex) (by omega) HA.out (hArcL.keep hHeld.1 (by simp)) (fin_sec hsec) j gZ 0 cZ AZ (or_of HAZ.out) (by omega) zs (hZrc.keep hHeld.1 (by simp)) (by have := hHeld.1.size; omega)).mono ?_; rintro e wA3 ⟨bA3, rfl, hbl3, hoA3, hbA3⟩; have hbL3 := hHeld.1.trans hbA3; go_wp2_with fail
          refine hK.out _ _ (by (try dsimp only); exact ⟨hbL3, hbL3.cell hF0 (by simp), hbL3.cell hF1 (by simp)⟩) (fun hNew => ?_); clear hK K; clear hHeld; have hHeld := hNew; clear hNew
          (try simp only [Act.put, List.setIfInBounds_toArray, List.set_cons_zero, List.set_cons_succ, List.getElem_toArray, List.getElem_cons_succ, List.getElem_cons_zero])
          (refine wpAnyH_take (i := 9) (oi := _) (v := _) rfl (by decide +kernel) (by decide +kernel) (by decide +kernel) (fun _ _ _ h => h) (Or.inl ⟨by rfl, by (intro w hSw; (try dsimp only at hSw); go_simp; try with_reducible rfl)⟩) (by assumption) ?_; (try simp only [Act.put, List.setIfInBounds_toArray, List.set_cons_zero, List.set_cons_succ, List.getElem_toArray, List.getElem_cons_succ, List.getElem_cons_zero]))
          (refine wpAnyH_take (i := 10) (oi := _) (v := _) rfl (by decide +kernel) (by decide +kernel) (by decide +kernel) (fun _ _ _ h => h) (Or.inl ⟨by rfl, by (intro w hSw; (try dsimp only at hSw); go_simp; try with_reducible rfl)⟩) (by assumption) ?_; (try simp only [Act.put, List.setIfInBounds_toArray, List.set_cons_zero, List.set_cons_succ, List.getElem_toArray, List.getElem_cons_succ, List.getElem_cons_zero]))
          (refine wpAnyH_take (i := 11) (oi := _) (v := _) rfl (by decide +kernel) (by decide +kernel) (by decide +kernel) (fun _ _ _ h => h) (Or.inl ⟨by rfl, by (intro w hSw; (try dsimp only at hSw); go_simp; try with_reducible rfl)⟩) (by assumption) ?_; (try simp only [Act.put, List.setIfInBounds_toArray, List.set_cons_zero, List.set_cons_succ, List.getElem_toArray, List.getElem_cons_succ, List.getElem_cons_zero]))
          refine wpAnyH_done (by decide +kernel) ?_ _
          refine NoPanic.normal ?_; (try simp only [Exit.then])
          have hF0' := hHeld.2.1
          have hF1' := hHeld.2.2
          have hb3' := hHeld.1
          clear hHeld hF0 hF1
          go_wp2_with fail
          refine (answers_any ONE ONE n gA 0 cA A Sc _ (by decide) (by simp [wf, ONE]) (finC_ex one_ex) (by omega) HA.out (hArcL.keep hb3' (by simp)) (fin_sec hsec) (j + 2) gL 0 cL AL (or_of HAL.out) (by omega) _ (hLrc.keep hb3' (by simp)) (by have := hb3'.size; omega)).mono ?_
          rintro e wE ⟨bA4, rfl, hbl4, hoA4, hbA4⟩
          have hb4E := hb3'.trans hbA4
          have hr1 := rowXC ((hoA1.keep hbA2 (by simp)).keep (hbA3.trans hbA4) (by simp)) (fun i hi => ys_ex hn3 hsec i fun t ht => (hga t (by omega)).1)
          have hr2 := rowXC (hoA2.keep (hbA3.trans hbA4) (by simp)) (fun i hi => ys_ex hn3 hsec i fun t ht => (hga t (by omega)).2.1)
          have hr3 := rowXC (hoA3.keep hbA4 (by simp)) (fun i hi => ys_ex (zs := fun t => gadd (xg t) (yg t)) hn3 hsec i fun t ht => (hga t (by omega)).2.2)
          have hr4 := rowXC hoA4 (fun i hi => ys_ex (zs := gLate xg) hn3 hsec i fun t ht => late_ex hga t (by omega))
          clear hoA1 hoA2 hoA3 hoA4 hArcL hXrc hYrc hZrc hLrc hF0' hF1'
          have HR1 := Lib.hid hr1
          have HR2 := Lib.hid hr2
          have HR3 := Lib.hid hr3
          have HR4 := Lib.hid hr4
          have HGA := Lib.hid hga
          have HSE := Lib.hid hsec
          clear hr1 hr2 hr3 hr4 hga hsec
          go_wp2_with fail
          obtain ⟨wp, rfl⟩ : ∃ wp : World, wp = wr := ⟨_, rfl⟩
          have tot : But [] w wE := by
            have q1 := (hb1.trans hb2).then hbut (fun i hi hm => by simp at hm; have := hb1.size; omega)
            exact ((q1.trans hbq).trans hb8).trans hb4E
          clear hb1 hb2 hbut hbq hb8 hb4E hbA1 hbA2 hbA3 hbA4 hbL1 hbL2 hbL3 hb3'
          have o0 : FloatKind.f64.format.order 0 0 = some Ordering.eq := by decide +kernel
          go_loopw [131] (fun i wq => ∃ k : Nat, k ≤ j ∧ i = .int .i64 k ∧ But [] wE wq) (fun i _ => j - (intOf i).toNat)
          case atStart => exact ⟨0, Nat.zero_le _, rfl, But.refl _ _⟩
          case round =>
            obtain ⟨t, ht, rfl, hbt⟩ := hrel
            by_cases hlt : t < j
            · obtain ⟨c1, x1⟩ := HR1.out t hlt
              obtain ⟨c2, x2⟩ := HR2.out t hlt
              obtain ⟨c3, x3⟩ := HR3.out t hlt
              obtain ⟨c4, x4⟩ := HR4.out (t + 2) (by omega)
              rw [gYs_add] at x3
              rw [gYs_late] at x4
              replace c1 := hbt.cell c1 (by simp)
              replace c2 := hbt.cell c2 (by simp)
              replace c3 := hbt.cell c3 (by simp)
              replace c4 := hbt.cell c4 (by simp)
              have x5 := cadd_ex x1 x2 (by omega)
              have hsum : ∀ W, (binOp .add 25 (.complex .f64 (Ys n ONE Sc (fun _ => Z0) xs t).1 (Ys n ONE Sc (fun _ => Z0) xs t).2) (.complex .f64 (Ys n ONE Sc (fun _ => Z0) ys t).1 (Ys n ONE Sc (fun _ => Z0) ys t).2)).run Try.prog W = .ok (.complex .f64 (N2 .add (Ys n ONE Sc (fun _ => Z0) xs t).1 (Ys n ONE Sc (fun _ => Z0) ys t).1) (N2 .add (Ys n ONE Sc (fun _ => Z0) xs t).2 (Ys n ONE Sc (fun _ => Z0) ys t).2)) W := fun W => csum_fin 25 x1.1.1.1 x1.1.2.1 x2.1.1.1 x2.1.2.1 W
              have e1 := order_some x5.1.1 x3.1.1
              have e2 := order_some x5.1.2 x3.1.2
              have e3 := order_some x4.1.1 x1.1.1
              have e4 := order_some x4.1.2 x1.1.2
              simp only [cadd] at e1 e2
              have HX := Lib.hid x5
              clear x1 x2 x3 x4 x5
              have k1 : IntKind.i64.wrap ((t : Int) + 2) = (t : Int) + 2 := IntWalk.i64_in _ (by omega)
              have k2 : (0 : Int) ≤ (t : Int) + 2 := by omega
              have k3 : ((t : Int) + 2).toNat = t + 2 := by omega
              have k4 : (t : Int) + 2 < ((j + 2 : Nat) : Int) := by omega
              have k5 : (t : Int) < (j : Int) := by omega
              go_wp2_with fail
              go_quiet (fail)
              go_wp2_with fail
              exact ⟨⟨t + 1, by omega, by go_num, hbt.drewN nq⟩, by simp [intOf]; omega⟩
            · obtain ⟨c1, x1⟩ := HR4.out 0 (by omega)
              obtain ⟨c2, x2⟩ := HR4.out 1 (by omega)
              rw [(gYs_late0 n Sg xg).1] at x1
              rw [(gYs_late0 n Sg xg).2] at x2
              replace c1 := hbt.cell c1 (by simp)
              replace c2 := hbt.cell c2 (by simp)
              have e1 : FloatKind.f64.format.order _ 0 = some Ordering.eq := order_some x1.1.1 zero_ex.1.1
              have e2 : FloatKind.f64.format.order _ 0 = some Ordering.eq := order_some x1.1.2 zero_ex.1.2
              have e3 : FloatKind.f64.format.order _ 0 = some Ordering.eq := order_some x2.1.1 zero_ex.1.1
              have e4 : FloatKind.f64.format.order _ 0 = some Ordering.eq := order_some x2.1.2 zero_ex.1.2
              simp only [Nat.zero_add, Nat.mul_one, Nat.zero_mul] at e1 e2 e3 e4
              clear x1 x2
              go_wp2_with fail
              go_ret
              exact ⟨rfl, tot.trans hbt⟩
end Go.Proofs.Ytnmpofjegepmaaa
