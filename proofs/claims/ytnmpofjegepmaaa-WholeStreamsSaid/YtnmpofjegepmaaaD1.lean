/- CascadeLinear's answers and awake. -/
import Derived.Test.YtnmpofjegepmaaaC8
import Derived.Outline
namespace Go.Proofs.Ytnmpofjegepmaaa
open Go.RowKit Go.Proofs.Ytnmpofjegepmaaa.Fl

set_option maxHeartbeats 4000000 in
set_option maxRecDepth 100000 in
theorem answers_any (gr g : C) (n fb fo fk : Nat) (A : Option Addr) (Sc : Nat → C) (w : World) (hg : ccn gr = g) (hgw : wf gr) (hgf : FinC g) (n16 : n ≤ 16) (hA : 0 < n → A = some ⟨fb, fo, none⟩) (hs : RC w fb fo (n * 5) Sc) (hf : ∀ j, j < n * 5 → FinC (Sc j))
    (m lb lo lk : Nat) (L : Option Addr) (hL : (m = 0) ∨ (0 < m ∧ L = some ⟨lb, lo, none⟩)) (hm : m ≤ 17592186044416) (xs : Nat → C) (hxs : RC w lb lo m xs) (hlb : lb < w.heap.size) :
    Calls Try.prog 13 #[.agg #[.complex .f64 gr.1 gr.2, .slice A n fk], .slice L m lk] w fun e w' => ∃ b, e = .returned (.slice (some ⟨b, 0, none⟩) m m) ∧ w.heap.size ≤ b ∧ OC w' b 25 m (Ys n g Sc (fun _ => Z0) xs) ∧ But [] w w' := by
  have hex : ∃ w1, w.alloc (.cells #[.complex .f64 gr.1 gr.2, .slice A n fk] 28) = w1 ∧ But [] w w1 ∧ w1.cell? ⟨w.heap.size, 0, none⟩ = some (.complex .f64 gr.1 gr.2) ∧ w1.cell? ⟨w.heap.size, 1, none⟩ = some (.slice A n fk) :=
    ⟨_, rfl, (But.refl _ _).alloc _, by simp [go_sem], by simp [go_sem]⟩
  obtain ⟨w1, hw1, hb1, hc0, hc1⟩ := hex
  have HA := Lib.hid hA
  have HG := Lib.hid hg
  have HL := Lib.hid hL
  clear hA hg hL
  go_enter Try.func13, Try.ntmps13
  go_wp2_with (first | (go_at_call 16; refine (cnew_any gr g n fb fo fk A Sc _ HG.out hgw hgf n16 HA.out (hs.keep hb1 (by simp)) hf).mono ?_; rintro e w2 ⟨c, p, q, rfl, hc, hp, hq, hcas, hb2⟩; have s1 := hb1.size; have s2 := hb2.size) | (go_at_call 18; refine (crun_any c p q n lb lo m lk L HL.out hm g xs Sc _ _ (hxs.keep (hb1.trans hb2) (by simp)) (by omega) hcas).mono ?_; rintro e w5 ⟨rfl, hb5, hoc5, hcas5⟩))
  go_ret
  exact ⟨_, rfl, by omega, hoc5, (hb1.trans hb2).then hb5 (fun i hi hm => by simp at hm; omega)⟩

theorem cn_eq {u v : Nat} (h : cn u = v) (hv : nan v = false) : u = v := by
  cases hu : nan u
  · rwa [cn_num hu] at h
  · rw [cn_nan hu] at h; subst h; cases hv
theorem ccn_eq {y : C} {a b : Nat} (h : ccn y = (a, b)) (ha : nan a = false) (hb : nan b = false) : y = (a, b) := by
  obtain ⟨y1, y2⟩ := y
  simp only [ccn, Prod.mk.injEq] at h
  rw [cn_eq h.1 ha, cn_eq h.2 hb]

/-- y = x + y1/2. -/
def hSec (j : Nat) : C := if j = 0 then ONE else if j = 3 then (13826050856027422720, 0) else Z0
def TWO : C := (4611686018427387904, 0)
def HALF : C := (4602678819172646912, 0)
theorem h_y1 : stepY 1 TWO hSec (fun _ => Z0) ONE = TWO := by decide +kernel
theorem h_y2 : stepY 1 TWO hSec (stepS 1 TWO hSec (fun _ => Z0) ONE) Z0 = ONE := by decide +kernel
theorem h_s2 : stepS 1 TWO hSec (stepS 1 TWO hSec (fun _ => Z0) ONE) Z0 0 = HALF := by decide +kernel
theorem h_i3 : Ys 1 TWO hSec (fun _ => Z0) imp 2 = HALF := by decide +kernel
theorem h_fin : ∀ j, j < 1 * 5 → FinC (hSec j) := by
  intro j hj
  have : j = 0 ∨ j = 1 ∨ j = 2 ∨ j = 3 ∨ j = 4 := by omega
  rcases this with rfl | rfl | rfl | rfl | rfl <;> (unfold FinC; decide +kernel)

set_option linter.unusedSimpArgs false in
set_option maxHeartbeats 4000000 in
set_option maxRecDepth 100000 in
theorem awake17_any (w : World) : Calls Try.prog 12 #[] w fun e w' => e = .returned (.bool true) ∧ But [] w w' := by
  have hex : ∃ w1, w.alloc (.cells #[.complex .f64 4607182418800017408 0, .complex .f64 0 0, .complex .f64 0 0, .complex .f64 13826050856027422720 0, .complex .f64 0 0] 33) = w1 ∧ But [] w w1 ∧ RC w1 w.heap.size 0 (1 * 5) hSec ∧ w.heap.size < w1.heap.size := by
    refine ⟨_, rfl, (But.refl _ _).alloc _, ?_, by simp⟩
    intro j hj
    have : j = 0 ∨ j = 1 ∨ j = 2 ∨ j = 3 ∨ j = 4 := by omega
    rcases this with rfl | rfl | rfl | rfl | rfl
    · exact ⟨ONE, by simp [go_sem, V, ONE], by simp [wf, ONE, Z0, hSec], by decide⟩
    · exact ⟨Z0, by simp [go_sem, V, Z0], by simp [wf, ONE, Z0, hSec], by decide⟩
    · exact ⟨Z0, by simp [go_sem, V, Z0], by simp [wf, ONE, Z0, hSec], by decide⟩
    · exact ⟨hSec 3, by simp [go_sem, V, hSec], by simp [wf, ONE, Z0, hSec], by decide⟩
    · exact ⟨Z0, by simp [go_sem, V, Z0], by simp [wf, Z0], by decide⟩
  obtain ⟨w1, hw1, hb1, hrc, hs1⟩ := hex
  obtain ⟨w2, hw2, hb2, hc0, hc1, hs2⟩ : ∃ w2, w1.alloc (.cells #[.complex .f64 4611686018427387904 0, .slice (some ⟨w.heap.size, 0, none⟩) 1 1] 28) = w2 ∧ But [] w1 w2 ∧ w2.cell? ⟨w1.heap.size, 0, none⟩ = some (.complex .f64 4611686018427387904 0) ∧ w2.cell? ⟨w1.heap.size, 1, none⟩ = some (.slice (some ⟨w.heap.size, 0, none⟩) 1 1) ∧ w1.heap.size < w2.heap.size :=
    ⟨_, rfl, (But.refl _ _).alloc _, by simp [go_sem], by simp [go_sem], by simp⟩
  have hrc2 := hrc.keep hb2 (by simp)
  have o1 : FloatKind.f64.format.order 4611686018427387904 4611686018427387904 = some Ordering.eq := by decide +kernel
  have o2 : FloatKind.f64.format.order 4607182418800017408 4607182418800017408 = some Ordering.eq := by decide +kernel
  have o3 : FloatKind.f64.format.order 4602678819172646912 4602678819172646912 = some Ordering.eq := by decide +kernel
  have o4 : FloatKind.f64.format.order 0 0 = some Ordering.eq := by decide +kernel
  go_enter Try.func12, Try.ntmps12
  go_wp2_with fail
  refine (cnew_any TWO TWO 1 w.heap.size 0 1 _ hSec _ (by decide) (by simp [wf, TWO]) (by unfold FinC; decide +kernel) (by omega) (fun _ => rfl) hrc2 h_fin).mono ?_
  rintro e w3 ⟨c, p, q, rfl, hc, hp, hq, hcas, hb3⟩
  have hc0' := hb3.cell hc0 (by simp)
  have hc1' := hb3.cell hc1 (by simp)
  have hrc3 := hrc2.keep hb3 (by simp)
  clear hc0 hc1 hw1 hw2
  go_wp2_with fail
  refine (cstep c p q 1 TWO ONE ONE hSec _ _ (by decide) hcas).mono ?_
  rintro e w4 ⟨y1, rfl, _, e1, hb4, hcas4⟩
  obtain rfl := ccn_eq (e1.trans h_y1) (by decide) (by decide)
  clear e1
  go_wp2_with fail
  refine (cstep c p q 1 TWO Z0 Z0 hSec _ _ (by decide) hcas4).mono ?_
  rintro e w5 ⟨y2, rfl, _, e2, hb5, hcas5⟩
  obtain rfl := ccn_eq (e2.trans h_y2) (by decide) (by decide)
  clear e2
  have hb35 := hb4.trans hb5
  have s1 := hb1.size
  have s2 := hb2.size
  have s3 := hb3.size
  have l1 := hcas.cl
  have hqw : w1.heap.size ≠ q := by omega
  have hqw' : w.heap.size ≠ q := by omega
  have hc0 := hb35.cell hc0' (by simpa using hqw)
  have hc1 := hb35.cell hc1' (by simpa using hqw)
  have hrc5 := hrc3.keep hb35 (by simpa using hqw')
  clear hc0' hc1'
  go_wp2_with fail
  refine (cimp_any 3 (by omega) (by omega) TWO TWO 1 w.heap.size 0 1 _ hSec _ (by decide) (by simp [wf, TWO]) (by unfold FinC; decide +kernel) (by omega) (fun _ => rfl) hrc5 h_fin).mono ?_
  rintro e w6 ⟨b, rfl, hbl, hoc, hb6⟩
  obtain ⟨z, hz, _, ez⟩ := hoc.rc.one 2 (by omega)
  obtain rfl := ccn_eq (ez.trans h_i3) (by decide) (by decide)
  clear ez
  have hcas6 := hcas5.keep hb6 (by simp) (by simp) (by simp)
  go_wp2_with fail
  refine (cstates_any c p q 1 TWO hSec _ _ hcas6).mono ?_
  rintro e w7 ⟨v, rfl, ⟨b7, k7, rfl, _, hb7l, hoc7⟩, hb7⟩
  have hcas7 := hcas6.keep hb7 (by simp) (by simp) (by simp)
  go_wp2_with fail
  refine (cstates_any c p q 1 TWO hSec _ _ hcas7).mono ?_
  rintro e w8 ⟨v, rfl, ⟨b8, k8, rfl, _, hb8l, hoc8⟩, hb8⟩
  obtain ⟨z8, hz8, _, ez8⟩ := hoc8.rc.one 0 (by omega)
  obtain rfl := ccn_eq (ez8.trans h_s2) (by decide) (by decide)
  clear ez8
  go_wp2_with fail
  go_ret
  refine ⟨rfl, ?_⟩
  have hba := (hb1.trans hb2).trans hb3
  have hbb := hba.then hb35 (fun i hi hm => by simp at hm; omega)
  exact ((hbb.trans hb6).trans hb7).trans hb8
end Go.Proofs.Ytnmpofjegepmaaa
