/- quaverlaw19.awake. -/
import Derived.Test.YtnmpofjegepmaaaG8
import Derived.Outline
namespace Go.Proofs.Ytnmpofjegepmaaa
open Go.RowKit Go.Proofs.Ytnmpofjegepmaaa.Fl Go.Proofs.Ytnmpofjegepmaaa.Pt

theorem lxs_rc (W : World) : RC (W.alloc (.cells #[.complex .f64 4503599627370496 0, .complex .f64 0 0] 25)) W.heap.size 0 2 lxs := by
  intro j hj
  have : j = 0 ∨ j = 1 := by omega
  rcases this with rfl | rfl
  · exact ⟨LEAST, by simp [go_sem, V, LEAST], by simp [wf, LEAST], by decide⟩
  · exact ⟨Z0, by simp [go_sem, V, Z0], by simp [wf, Z0], by decide⟩

theorem Grd.keep {w w' : World} {d c p q p2 n : Nat} {f cl m : Bool} {ch : Nat} {g : C} {Sc St : Nat → C} {qs : List Nat} (h : Grd w d c p q p2 n f cl m ch g Sc St) (k : But qs w w') (h1 : d ∉ qs) (h2 : c ∉ qs) (h3 : p ∉ qs) (h4 : q ∉ qs) (h5 : p2 ∉ qs) : Grd w' d c p q p2 n f cl m ch g Sc St := by
  obtain ⟨gr, A2, k2, hb, r⟩ := h.blk
  exact ⟨h.cas.keep k h2 h3 h4, ⟨gr, A2, k2, k.heap hb h1, r⟩, h.sec.keep k h5, h.ne, Nat.lt_of_lt_of_le h.p2l k.size⟩

set_option linter.unusedSimpArgs false in
set_option maxHeartbeats 4000000 in
set_option maxRecDepth 100000 in
theorem awake19_any (w : World) : Calls Try.prog 26 #[] w fun e w' => e = .returned (.bool true) ∧ But [] w w' := by
  have HL := lxs_rc
  go_enter Try.func26, Try.ntmps26
  go_wp2_with fail
  refine (half_flt _).mono ?_
  rintro e w1 ⟨b, rfl, hrc, hb, hb1⟩
  go_wp2_with fail
  refine (gnew_any ONE ONE 1 b 0 1 (some ⟨b, 0, none⟩) true false false hSec _ (by decide) (by simp [wf, ONE]) (by unfold FinC; decide +kernel) (by omega) (.inr ⟨_, rfl, fun _ => rfl⟩) hrc h_fin).mono ?_
  rintro e w2 ⟨d, c, p, q, p2, rfl, hd, hc, hp, hq, hp2, hgrd, hb2⟩
  go_wp2_with fail
  refine (least_any _).mono ?_
  rintro e w3 ⟨rfl, rfl⟩
  go_wp2_with fail
  have hba : But [] w3 (w3.alloc (.cells #[.complex .f64 4503599627370496 0, .complex .f64 0 0] 25)) := (But.refl _ _).alloc _
  have dl := hgrd.cas.cl
  obtain ⟨gr0, A0, k0, hblk0, _⟩ := hgrd.blk
  have dl2 : d < w3.heap.size := (Array.getElem?_eq_some_iff.1 hblk0).1
  clear hblk0
  refine (grun_any d c p q p2 1 w3.heap.size 0 2 2 true false false 0 (by omega) (some ⟨w3.heap.size, 0, none⟩) (fun _ => rfl) (by omega) ONE lxs hSec _ _ (HL w3) (by omega) (hgrd.keep hba (by simp) (by simp) (by simp) (by simp) (by simp))).mono ?_
  rintro e w4 ⟨v, q', rfl, hor, hq', hgrd4, hb4⟩
  rw [a_n] at hgrd4
  rcases hor.form with ⟨_, h⟩ | ⟨bv, kv, rfl, hbv, hkv, hoc⟩
  · omega
  replace hoc := hoc.congr (ys := lxs) fun j hj => a_y j (by omega)
  go_wp2_with fail
  refine (least_any _).mono ?_
  rintro e w5 ⟨rfl, rfl⟩
  go_wp2_with fail
  have hbw : But [] w5 (w5.alloc (.cells #[.complex .f64 4503599627370496 0, .complex .f64 0 0] 25)) := (But.refl _ _).alloc _
  refine (rsall_any (some ⟨bv, 0, none⟩) (some ⟨w5.heap.size, 0, none⟩) bv 0 w5.heap.size 0 2 kv 2 (by omega) (.inr ⟨by omega, rfl, rfl⟩) lxs _ (hoc.rc.keep hbw (by simp)) (HL w5)).mono ?_
  rintro e w6 ⟨rfl, hb6⟩
  have hgrd6 := (hgrd4.keep hbw (by simp) (by simp) (by simp) (by simp) (by simp)).keep hb6 (by simp) (by simp) (by simp) (by simp) (by simp)
  go_wp2_with fail
  refine (gchanged_any d c p q' p2 1 true false false _ ONE hSec _ _ hgrd6).mono ?_
  rintro e w7 ⟨rfl, rfl⟩
  go_wp2_with fail
  refine (gstates_any d c p q' p2 1 true false false _ ONE hSec _ _ hgrd6).mono ?_
  rintro e w8 ⟨sb, sk, rfl, hsk, hsb, hos, hb8⟩
  go_wp2_with fail
  go_ret
  have sz1 := hb1.size
  have sz2 := hb2.size
  refine ⟨rfl, ?_⟩
  have hx : But [] w w5 := ((hb1.trans hb2).trans hba).then hb4 (fun i hi hm => by simp at hm; omega)
  exact ((hx.trans hbw).trans hb6).trans hb8
end Go.Proofs.Ytnmpofjegepmaaa
