/- WholeCuts: the walk. -/
import Derived.Test.YtnmpofjegepmaaaE4
import Derived.Deep.CutRange
namespace Go.Proofs.Ytnmpofjegepmaaa
open Go.RowKit Go.Proofs.Ytnmpofjegepmaaa.Fl

theorem OR.shape3 {w : World} {base t size n : Nat} {v : Value} {xs : Nat → C} (h : OR w base t size v n xs) : ∃ A g c, v = .slice A n c ∧ n ≤ c ∧ (0 < n → A = some ⟨g, 0, none⟩) ∧ RC w g 0 (n * size) xs ∧ base ≤ g := by
  rcases h.form with ⟨rfl, rfl⟩ | ⟨g, c, rfl, hb, hc, ho⟩
  · exact ⟨none, base, 0, rfl, Nat.le_refl _, fun h => by omega, fun j hj => by simp at hj, Nat.le_refl _⟩
  · exact ⟨_, g, c, rfl, hc, fun _ => rfl, ho.rc, hb⟩
theorem OR.ne_oc {w : World} {base t t' size n q m : Nat} {v : Value} {xs ys : Nat → C} (h : OR w base t size v n xs) (ho : OC w q t' m ys) (ht : t ≠ t') : ∀ g, v.ownBlock = some g → g ≠ q := by
  rintro g hg rfl
  obtain ⟨vs, ⟨_, h1⟩, _⟩ := h
  obtain ⟨cs, h2, _⟩ := ho
  rcases h1 with ⟨rfl, _⟩ | ⟨g', cap, cur, rfl, _, h3, _⟩
  · simp [Value.ownBlock] at hg
  · simp [Value.ownBlock] at hg
    subst hg
    rw [h2] at h3
    injection h3 with h3
    injection h3 with _ h4
    exact ht h4.symm

theorem But.of_grown {w w' : World} {row : Option Nat} (hg : w.grownBy w' row) : But row.toList w w' := ⟨hg.os, hg.tape, hg.output, hg.size, fun k hk hn => hg.block k hk (fun e => hn (by rw [← e]; simp))⟩
theorem Cas.grown {w w' : World} {c p q n base t size k : Nat} {g : C} {Sc St xs : Nat → C} {v : Value} (h : Cas w c p q n g Sc St) (ho : OR w base t size v k xs) (hg : w.grownBy w' v.ownBlock) (ht : t ≠ 71) (hc : c < base) (hp : p < base) : Cas w' c p q n g Sc St :=
  h.keep (But.of_grown hg) (fun hm => by have := (ho.lt c (by simpa using hm)).1; omega) (fun hm => by have := (ho.lt p (by simpa using hm)).1; omega) (fun hm => ho.ne_oc h.sta ht q (by simpa using hm) rfl)

theorem or3 {n : Nat} {A B X Y : Option Addr} (h1 : 0 < n → A = X) (h2 : 0 < n → B = Y) : n = 0 ∨ (0 < n ∧ A = X ∧ B = Y) := by
  rcases Nat.eq_zero_or_pos n with h | h
  · exact .inl h
  · exact .inr ⟨h, h1 h, h2 h⟩
theorem yv_gain {m : Nat} {Sc : Nat → C} (h : Plain m Sc) (i : Nat) (hi : i ≤ m) : Yv GN Sc (fun _ => Z0) ONE i = GN := by
  induction i with
  | zero => show cmul GN ONE = GN; decide +kernel
  | succ i ih =>
    show sy (Sc (i * 5)) Z0 (Yv GN Sc (fun _ => Z0) ONE i) = GN
    rw [ih (by omega), (h i (by omega)).1]; decide +kernel

set_option linter.unusedSimpArgs false in
set_option maxHeartbeats 1000000 in
set_option maxRecDepth 100000 in
theorem cuts_any (lb lo nl kl bb bo nb kb cb co nc kc : Nat) (L B K : Option Addr) (w : World) (hL : 0 < nl → L = some ⟨lb, lo, none⟩) (hB : 0 < nb → B = some ⟨bb, bo, none⟩) (hK : 0 < nc → K = some ⟨cb, co, none⟩)
    (rl : R8 w lb lo nl) (rb : RU w bb bo nb) (rc : R8 w cb co nc) (ml : nl ≤ 9223372036854775807) (mb : nb ≤ 17592186044416) (mc : nc ≤ 140737488355328) :
    Calls Try.prog 4 #[.slice L nl kl, .slice B nb kb, .slice K nc kc] w fun e w' => e = .returned (.bool true) ∧ But [] w w' := by
  have HL := Lib.hid hL
  have HB := Lib.hid hB
  have HK := Lib.hid hK
  clear hL hB hK
  go_enter Try.func4, Try.ntmps4
  go_wp2_with fail
  refine (works_any lb lo nl kl L w HL.out rl ml).mono ?_
  rintro e w1 ⟨A, fb, fk, m, Sc, rfl, hm4, hA, hsec, hpl, hb1⟩
  have HA := Lib.hid hA
  clear hA HL rl
  obtain ⟨w2, hw2, hb2, hblk⟩ : ∃ w2, w1.alloc (.cells #[.complex .f64 4604930618986332160 4602678819172646912, .slice A m fk] 28) = w2 ∧ But [] w1 w2 ∧ w2.heap[w1.heap.size]? = some (.cells #[.complex .f64 4604930618986332160 4602678819172646912, .slice A m fk] 28 (0, 0)) :=
    ⟨_, rfl, (But.refl _ _).alloc _, heap_alloc_new _ _⟩
  have HW2 := Lib.hid hw2
  clear hw2
  go_wp2_with fail
  rw [HW2.out]
  clear HW2
  generalize hF : w1.heap.size = F at *
  have HF := Lib.hid hF
  clear hF
  refine (raw_any bb bo nb kb B w2 HB.out ((rb.keep hb1 (by simp)).keep hb2 (by simp)) mb).mono ?_
  rintro e w3 ⟨v, xs, rfl, hor, hb3⟩
  obtain ⟨X, gx, cx, rfl, hcx, hX, hxrc, hgx⟩ := hor.shape3
  rw [Nat.mul_one] at hxrc
  have HX := Lib.hid hX
  clear HB rb hX
  go_upto_if 28 with fail
  go_cut [8] from 22 (fun s8 wx => w3 = wx ∧ ∃ M c : Nat, s8 = .slice X M c ∧ M ≤ c ∧ M ≤ 300 ∧ Hid (0 < M → X = some ⟨gx, 0, none⟩) ∧ RC w3 gx 0 M xs)
  case first =>
    by_cases h3 : 300 < nb / 2
    · have t1 : decide ((300 : Int) < ((nb / 2 : Nat) : Int)) = true := by simp; omega
      go_wp2
      go_meet
      case rel => exact ⟨rfl, 300, cx, rfl, by omega, by omega, fun h => HX.out (by omega), hxrc.less (by omega)⟩
    · have t1 : decide ((300 : Int) < ((nb / 2 : Nat) : Int)) = false := by simp; omega
      go_wp2
      go_meet
      case rel => exact ⟨rfl, nb / 2, cx, rfl, hcx, by omega, HX.out, hxrc⟩
  case rest =>
    obtain ⟨rfl, M, c, rfl, hMc, hM, HX0, hx0⟩ := hcut
    clear HX hxrc
    obtain ⟨gx, hgx3, HXX, hx⟩ : ∃ g, g < w3.heap.size ∧ Hid (0 < M → X = some ⟨g, 0, none⟩) ∧ RC w3 g 0 M xs := by
      by_cases h0 : M = 0
      · exact ⟨F, Nat.lt_of_lt_of_le (Array.getElem?_eq_some_iff.1 hblk).1 hb3.size, fun h => by omega, fun j hj => by omega⟩
      · obtain ⟨_, h1, _⟩ := hx0 0 (by omega)
        exact ⟨gx, World.block_lt_of_cell? _ _ h1, HX0, hx0⟩
    clear HX0 hx0
    have hfbk := hb3.heap hblk (by simp)
    have hF0 : w3.cell? ⟨F, 0, none⟩ = some (.complex .f64 4604930618986332160 4602678819172646912) := by rw [cell_of_row w3 F 0 _ _ _ hfbk]; rfl
    have hF1 : w3.cell? ⟨F, 1, none⟩ = some (.slice A m fk) := by rw [cell_of_row w3 F 1 _ _ _ hfbk]; rfl
    have hsec3 := (hsec.keep hb2 (by simp)).keep hb3 (by simp)
    have hgf : FinC GN := by unfold FinC; decide +kernel
    have hgw : wf GN := by simp [wf, GN]
    have hb13 : But [] w w3 := (hb1.trans hb2).trans hb3
    clear hblk hfbk hor hb1 hb2 hb3 hsec
    have HPL := Lib.hid hpl
    clear hpl
    go_wp2_with fail
    refine (cnew_any GN GN m fb 0 fk A Sc _ (by decide) hgw hgf (by omega) HA.out hsec3 HPL.out.fin).mono ?_
    rintro e w4 ⟨ca, pa, qa, rfl, hca, hpa, hqa, hcasA, hb4⟩
    have hF0' := hb4.cell hF0 (by simp)
    have hF1' := hb4.cell hF1 (by simp)
    clear hF0 hF1
    go_wp2_with fail
    refine (cnew_any GN GN m fb 0 fk A Sc _ (by decide) hgw hgf (by omega) HA.out (hsec3.keep hb4 (by simp)) HPL.out.fin).mono ?_
    rintro e w5 ⟨cb', pb, qb0, rfl, hcb, hpb, hqb, hcasB, hb5⟩
    have hF0 := hb5.cell hF0' (by simp)
    have hF1 := hb5.cell hF1' (by simp)
    clear hF0' hF1'
    go_wp2_with fail
    refine (cimp_any 1 (by omega) (by omega) GN GN m fb 0 fk A Sc _ (by decide) hgw hgf (by omega) HA.out ((hsec3.keep hb4 (by simp)).keep hb5 (by simp)) HPL.out.fin).mono ?_
    rintro e w6 ⟨b1, rfl, hbl1, hoc1, hb6⟩
    have hF0' := hb6.cell hF0 (by simp)
    clear hF0 hF1
    obtain ⟨z, hz, _, ez⟩ := hoc1.rc.one 0 (by omega)
    obtain rfl := ccn_eq (a := 4604930618986332160) (b := 4602678819172646912) (ez.trans (yv_gain HPL.out m (Nat.le_refl _))) (by decide) (by decide)
    clear ez
    have o1 : FloatKind.f64.format.order 4604930618986332160 4604930618986332160 = some Ordering.eq := by decide +kernel
    have o2 : FloatKind.f64.format.order 4602678819172646912 4602678819172646912 = some Ordering.eq := by decide +kernel
    have i0 : (0 : Int) < ((1 : Nat) : Int) := by omega
    go_wp2_with fail
    go_quiet (fail)
    have hb7 : But [] w6 (w6.drewN nq) := (But.refl [] w6).drewN nq
    generalize w6.drewN nq = w7 at *
    have hcasA7 := ((hcasA.keep hb5 (by simp) (by simp) (by simp)).keep hb6 (by simp) (by simp) (by simp)).keep hb7 (by simp) (by simp) (by simp)
    have hcasB7 := (hcasB.keep hb6 (by simp) (by simp) (by simp)).keep hb7 (by simp) (by simp) (by simp)
    have h47 := ((hb4.trans hb5).trans hb6).trans hb7
    have hx7 := hx.keep h47 (by simp)
    have s4 := hb4.size
    have s5 := hb5.size
    have s6 := hb6.size
    have s7 := hb7.size
    have aA := hcasA.cl
    have aP := hcasA.pl
    have aQ := hcasA.ql
    have b13 := hb13.size
    clear hcasA hcasB hx hF0' hz hoc1 hsec3 hb6 hb5 hb4
    go_wp2_with fail
    refine (crun_any ca pa qa m gx 0 M c X (or_of HXX.out) (by omega) GN xs Sc _ _ hx7 (by omega) hcasA7).mono ?_
    rintro e w8 ⟨rfl, hb8, hocW, hcasA8⟩
    have hx8 := hx7.keep hb8 (by simp; omega)
    have qB := hcasB7.ql
    have cB := hcasB7.cl
    have pB := hcasB7.pl
    have hcasB8 := hcasB7.keep hb8 (by simp; omega) (by simp; omega) (by simp; omega)
    have s8 := hb8.size
    have hbwl := hocW.lt
    have rc8 := ((rc.keep hb13 (by simp)).keep h47 (by simp)).keep hb8
    have hcl : 0 < nc → cb < w.heap.size := fun h => by
      obtain ⟨_, h1, _⟩ := rc 0 h
      exact World.block_lt_of_cell? _ _ h1
    have tot8 : But [] w w8 := (hb13.trans h47).then hb8 (fun i hi hm => by simp at hm; omega)
    clear hcasA7 hcasB7 hx7 h47 hb7 hb8 hb13 rc o1 o2 i0
    generalize hWW : w7.heap.size = bw at *
    clear hWW
    go_wp2_with fail
    obtain ⟨W0, rfl⟩ : ∃ W : World, W = w8 := ⟨_, rfl⟩
    go_loopw [16, 17, 18] (fun v a i wr => ∃ (I at_ qb : Nat), at_ ≤ M ∧ a = .int .i64 at_ ∧ i = .int .i64 I ∧ I ≤ nc + at_ ∧ But [cb', qb0] W0 wr ∧ (qb = qb0 ∨ W0.heap.size ≤ qb) ∧ Cas wr cb' pb qb m GN Sc (Ss m GN Sc (fun _ => Z0) xs at_) ∧ OR wr W0.heap.size 25 1 v at_ (Ys m GN Sc (fun _ => Z0) xs)) (fun _ a i _ => (M - (intOf a).toNat) + (nc - (intOf i).toNat))
    case atStart => exact ⟨0, 0, qb0, Nat.zero_le _, rfl, rfl, Nat.zero_le _, But.refl _ _, .inl rfl, hcasB8, OR.nil _ _ _ _ _⟩
    case round =>
      obtain ⟨I, at_, qb, hat, rfl, rfl, hI, hbt, hqb', hcas, hor⟩ := hrel
      have hqbq : ∀ i, i < W0.heap.size → i ∈ [qb] → i ∈ [cb', qb0] := fun i hi hm => by simp at hm ⊢; omega
      have hgq : gx ≠ qb := by omega
      have hbq2 : bw ≠ qb := by omega
      by_cases hlt : at_ < M
      · obtain rfl := HXX.out (by omega)
        have t1 : (at_ : Int) < M := by omega
        have hx := hx8.keep hbt (by simp; omega)
        go_upto_if 89 with fail
        go_cut [19] from 80 to 150 (fun s19 wx => wr = wx ∧ ∃ N0 : Nat, s19 = .int .i64 N0 ∧ N0 ≤ 8 ∧ (nc ≤ I → N0 = 1))
        case first =>
          by_cases hc : I < nc
          · obtain rfl := HK.out (by omega)
            obtain ⟨x, hx', ux⟩ := (rc8 (by simp; have := hcl (by omega); omega)).keep hbt (by simp; have := hcl (by omega); omega) I hc
            have t2 : (I : Int) < nc := by omega
            go_wp2
            go_meet
            case rel => exact ⟨rfl, x % 9, rfl, by omega, fun h => by omega⟩
          · have t2 : decide ((I : Int) < nc) = false := by simp; omega
            go_wp2
            go_meet
            case rel => exact ⟨rfl, 1, rfl, by omega, fun h => rfl⟩
        case rest =>
          obtain ⟨rfl, N0, rfl, hN8, hN1⟩ := hcut
          by_cases hA : nc ≤ I ∧ I % 2 = 0
          · have t2 : decide ((nc : Int) ≤ I) = true := by simp; omega
            have t3 : ((I : Int) % 2 == 0) = true := by simp; omega
            obtain ⟨xr, hxr, wx, ex⟩ := hx.one at_ hlt
            have EX1 := Lib.hid ex
            clear ex
            have tok1 : True := trivial
            have hle := hbt.size
            go_wp2_with (first
              | (go_at_call 19; refine (cstep cb' pb qb m GN (xs at_) xr Sc _ _ EX1.out hcas).mono ?_; rintro e w9 ⟨y, rfl, wy, ey, hb9, hcas9⟩; have EY := Lib.hid ey; clear ey; have hor9 := hor.keep hb9 (fun g hg => by have := hor.ne_oc hcas.sta (by decide) g hg; simpa using this); have s9 := hb9.size)
              | (at_builtin; have _t := tok1; refine wpList_append_rc _ rfl _ _ _ rfl W0.heap.size 25 _ 1 16 Try.underlying34 Try.info25 rfl (by omega) u16 at_ (Ys m GN Sc (fun _ => Z0) xs) rfl (hor9.alloc _) (some ⟨w9.heap.size, 0, none⟩) w9.heap.size 0 1 1 (fun _ => Ys m GN Sc (fun _ => Z0) xs at_) rfl (fun _ => rfl) (one_rc w9 y.1 y.2 _ wy EY.out) (by omega) (by omega) (by simp; omega) ?_; intro v' wE horE hgr hob _; clear tok1; have hcasE := (hcas9.keep ((But.refl [] w9).alloc _) (by simp) (by simp) (by simp)).grown (hor9.alloc _) hgr (by decide) (by omega) (by omega); have hbE : But [cb', qb0] W0 wE := ((hbt.then hb9 hqbq).alloc _).grown hgr (fun g hg => .inr (hor9.lt g hg).1)))
            refine ⟨⟨I + 1, at_ + 1, qb, by omega, by go_num, by go_num, by omega, hbE, hqb', hcasE, horE.congr fun j hj => ?_⟩, by simp [intOf]; omega⟩
            by_cases hj' : j < at_
            · exact cat_lt (by omega)
            · rw [cat_ge (by omega)]; congr 1; omega
          · obtain ⟨n', hmin, hn1, hn2, hn3⟩ : ∃ n' : Nat, (if (M : Int) - at_ < N0 then (M : Int) - at_ else (N0 : Int)) = (n' : Int) ∧ n' ≤ M - at_ ∧ n' ≤ 8 ∧ (nc ≤ I → 0 < n') := by
              by_cases h : (M : Int) - at_ < N0
              · exact ⟨M - at_, by rw [if_pos h]; omega, by omega, by omega, by omega⟩
              · exact ⟨N0, by rw [if_neg h], by omega, hN8, fun h => by have := hN1 h; omega⟩
            have hB : decide (nc ≤ I) = false ∨ (decide (nc ≤ I) = true ∧ ((I : Int) % 2 == 0) = false) := by
              by_cases h : nc ≤ I
              · exact .inr ⟨by simpa using h, by simp; omega⟩
              · exact .inl (by simpa using h)
            have q1 : (at_ : Int) + n' ≤ M := by omega
            have q2 : (0 : Int) ≤ (at_ : Int) + n' := by omega
            have q3 : ((at_ : Int) + n').toNat = at_ + n' := by omega
            have q4 : (at_ : Int) ≤ (at_ : Int) + n' := by omega
            have q5 : ¬ c = at_ := by omega
            have HN3 := Lib.hid hn3
            have hxcut : RC wr gx at_ n' (fun j => xs (at_ + j)) := by
              have := hx.cut (i := at_) (n := n') (by omega)
              rwa [Nat.zero_add] at this
            have HXC := Lib.hid hxcut
            clear hN1 hn3 hxcut
            rcases hB with t2 | ⟨t2, t3⟩
            all_goals
              go_wp2_with fail
              refine (crun_any cb' pb qb m gx at_ n' _ _ (or_of (fun _ => rfl)) (by omega) GN _ Sc _ _ HXC.out hgq hcas).mono ?_
              rintro e w9 ⟨rfl, hb9, hoc9, hcas9⟩
              rw [← Ss_add] at hcas9
              have hor9 := hor.keep hb9 (fun g hg => by have := hor.ne_oc hcas.sta (by decide) g hg; simpa using this)
              have s9 := hb9.size
              have hle := hbt.size
              have hx9 := hx.keep hb9 (by simpa using hgq)
              have tok1 : True := trivial
              have c1 := hcas.cl
              have c2 := hcas.pl
              have c3 := hcas.ql
              have hoc9' : OC w9 wr.heap.size 25 n' (fun j => Ys m GN Sc (fun _ => Z0) xs (at_ + j)) := hoc9.congr fun j _ => (Ys_add _ _ _ _ _ _ _).symm
              have bt9 : But [cb', qb0] W0 w9 := hbt.then hb9 hqbq
              clear hoc9 hor hcas hbt hx HXC hb9
              go_wp2_with (at_builtin; have _t := tok1; refine wpList_append_rc _ rfl _ _ _ rfl W0.heap.size 25 _ 1 16 Try.underlying34 Try.info25 rfl (by omega) u16 at_ (Ys m GN Sc (fun _ => Z0) xs) rfl hor9 (some ⟨wr.heap.size, 0, none⟩) wr.heap.size 0 n' n' _ rfl (fun _ => rfl) (by rw [Nat.mul_one]; exact hoc9'.rc) (by omega) (by omega) (by omega) ?_; intro v' wE horE hgr hob _; clear tok1; have hcasE := hcas9.grown hor9 hgr (by decide) (by omega) (by omega); have hbE : But [cb', qb0] W0 wE := bt9.grown hgr (fun g hg => .inr (hor9.lt g hg).1); have hxE := hx9.keep (But.of_grown hgr) (fun hm => by have := (hor9.lt gx (by simpa using hm)).1; omega))
              have sE := hbE.size
              have e1 := hcasE.cl
              have e2 := hcasE.pl
              have e3 := hcasE.ql
              clear hcas9 hor9 hgr hx9 hoc9' bt9
              refine (ccopy_any cb' pb qb m GN Sc _ _ hcasE).mono ?_
              rintro e wF ⟨c', p', q', rfl, hc', hp', hq', hcasC, hbF⟩
              have hcasF := hcasE.keep hbF (by simp) (by simp) (by simp)
              have horF := horE.keep hbF (by simp)
              have hxF := hxE.keep hbF (by simp)
              have btF := hbE.then hbF (fun i hi hm => by simp at hm)
              have f1 := hcasC.cl
              have f2 := hcasC.pl
              have f3 := hcasC.ql
              clear hcasE horE hxE hbE hbF
              go_wp2_with fail
              refine (crun_any c' p' q' m gx 0 M c _ (or_of (fun _ => rfl)) (by omega) GN xs Sc _ _ hxF (by omega) hcasC).mono ?_
              rintro e wG ⟨rfl, hbG, _, _⟩
              have sG := hbG.size
              have hcasG := hcasF.keep hbG (by simp; omega) (by simp; omega) (by simp; omega)
              have horG := horF.keep hbG (fun g hg => by have := horF.ne_oc hcasC.sta (by decide) g hg; simpa using this)
              have hxG := hxF.keep hbG (by simp; omega)
              have btG := btF.then hbG (fun i hi hm => by simp at hm; omega)
              clear hcasF horF hxF btF hbG hcasC
              go_wp2_with fail
              refine (cstates_any cb' pb qb m GN Sc _ _ hcasG).mono ?_
              rintro e wH ⟨v, rfl, ⟨sb, sk, rfl, hsk, hsb, hocS⟩, hbH⟩
              have sH := hbH.size
              have hcasH := hcasG.keep hbH (by simp) (by simp) (by simp)
              have horH := horG.keep hbH (by simp)
              have hxH := hxG.keep hbH (by simp)
              have btH := btG.then hbH (fun i hi hm => by simp at hm)
              have hsl := hocS.lt
              clear hcasG horG hxG btG hbH
              go_wp2_with fail
              refine (crun_any cb' pb qb m gx 0 M c _ (or_of (fun _ => rfl)) (by omega) GN xs Sc _ _ hxH hgq hcasH).mono ?_
              rintro e wI ⟨rfl, hbI, _, hcasI⟩
              have sI := hbI.size
              have horI := horH.keep hbI (fun g hg => by have := horH.ne_oc hcasH.sta (by decide) g hg; simpa using this)
              have hocSI := hocS.keep hbI (by simp; omega)
              have btI := btH.then hbI (fun i hi hm => by simp at hm ⊢; omega)
              clear horH hxH btH hbI hcasH hocS
              go_wp2_with fail
              refine (cset_any cb' pb qb m sb 0 sk _ (fun _ => rfl) GN Sc _ _ _ hcasI hocSI.rc).mono ?_
              rintro e wJ ⟨rfl, qN, hqN, hcasJ, hbJ⟩
              have horJ := horI.keep hbJ (fun g hg => by have := (horI.lt g hg).1; simp; omega)
              have btJ := btI.then hbJ (fun i hi hm => by simp at hm ⊢; omega)
              go_wp2_with fail
              refine ⟨⟨I + 1, at_ + n', qN, by omega, by go_num, by go_num, by have := HN3.out; omega, btJ, .inr (by omega), hcasJ, horJ.congr fun j hj => ?_⟩, by have := HN3.out; simp [intOf]; omega⟩
              by_cases hj' : j < at_
              · exact cat_lt (by omega)
              · rw [cat_ge (by omega)]; congr 1; omega
      · obtain rfl : at_ = M := by omega
        have sW := hbt.size
        have hcasA := hcasA8.keep hbt (by simp; omega) (by simp; omega) (by simp; omega)
        have hocWr := hocW.keep hbt (by simp; omega)
        have hxr := hx8.keep hbt (by simp; omega)
        have htot := tot8.then hbt (fun i hi hm => by simp at hm; omega)
        obtain ⟨P, gp, cp, rfl, _, hP, hprc, hgp⟩ := hor.shape3
        rw [Nat.mul_one] at hprc
        have HP := Lib.hid hP
        have k1 := hcas.cl
        have k2 := hcas.pl
        have k3 := hcas.ql
        clear hP hor hcasA8 hocW hbt hx8 tot8 rc8 HK
        go_wp2_with fail
        refine (lists_any _ _ bw 0 gp 0 at_ _ _ (by omega) (or3 (fun _ => rfl) HP.out) _ _ hocWr.rc hprc).mono ?_
        rintro e wa ⟨rfl, hba⟩
        have hcasAa := hcasA.keep hba (by simp) (by simp) (by simp)
        have hcasBa := hcas.keep hba (by simp) (by simp) (by simp)
        have sa := hba.size
        go_wp2_with fail
        refine (cstates_any ca pa qa m GN Sc _ _ hcasAa).mono ?_
        rintro e wb ⟨v, rfl, ⟨b1', k1', rfl, _, hb1l, hoS1⟩, hbb⟩
        have hcasAb := hcasAa.keep hbb (by simp) (by simp) (by simp)
        have hcasBb := hcasBa.keep hbb (by simp) (by simp) (by simp)
        have sb := hbb.size
        go_wp2_with fail
        refine (cstates_any cb' pb qb m GN Sc _ _ hcasBb).mono ?_
        rintro e wc ⟨v, rfl, ⟨b2', k2', rfl, _, hb2l, hoS2⟩, hbc⟩
        have hcasAc := hcasAb.keep hbc (by simp) (by simp) (by simp)
        have sc := hbc.size
        go_wp2_with fail
        refine (tstates_any _ _ b1' 0 b2' 0 m _ _ (by omega) (or3 (fun _ => rfl) (fun _ => rfl)) _ _ (hoS1.keep hbc (by simp)).rc hoS2.rc).mono ?_
        rintro e wd ⟨rfl, hbd⟩
        have hcasAd := hcasAc.keep hbd (by simp) (by simp) (by simp)
        have hbad := ((hba.trans hbb).trans hbc).trans hbd
        have hocWd := hocWr.keep hbad (by simp)
        have hxd := hxr.keep hbad (by simp)
        have sd := hbd.size
        have htotd := htot.thenB hbad.below
        clear hcasA hcasAa hcasAb hcasAc hcasBa hcasBb hcas hoS1 hoS2 hba hbb hbc hbd hbad hocWr hxr htot hprc
        go_wp2_with fail
        refine (crest_any ca pa qa m GN Sc _ _ hcasAd).mono ?_
        rintro e we ⟨rfl, qN, hqN, hcasAe, hbe⟩
        have hocWe := hocWd.keep hbe (by simp; omega)
        have hxe := hxd.keep hbe (by simp; omega)
        have htote := htotd.then hbe (fun i hi hm => by simp at hm; omega)
        have se := hbe.size
        go_wp2_with fail
        refine (crun_any ca pa qN m gx 0 at_ _ _ (or_of HXX.out) (by omega) GN xs Sc _ _ hxe (by omega) hcasAe).mono ?_
        rintro e wf' ⟨rfl, hbf, hocN, _⟩
        have hocWf := hocWe.keep hbf (by simp; omega)
        have htotf := htote.then hbf (fun i hi hm => by simp at hm; omega)
        go_wp2_with fail
        refine (lists_any _ _ we.heap.size 0 bw 0 at_ _ _ (by omega) (or3 (fun _ => rfl) (fun _ => rfl)) _ _ hocN.rc hocWf.rc).mono ?_
        rintro e wg ⟨rfl, hbg⟩
        go_wp2_with fail
        go_ret
        exact ⟨rfl, htotf.trans hbg⟩
end Go.Proofs.Ytnmpofjegepmaaa
