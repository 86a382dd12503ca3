/- WholeStreams: the walk. -/
import Derived.Test.YtnmpofjegepmaaaU12
import Derived.Deep.CutRange
import Derived.Deep.QuietTactic
import Derived.BigQuiet
namespace Go.Proofs.Ytnmpofjegepmaaa
open Go.RowKit Go.Shelf Go.Proofs.Ytnmpofjegepmaaa.Fl Go.Proofs.Ytnmpofjegepmaaa.Pt

set_option linter.unusedSimpArgs false in
set_option maxHeartbeats 2000000 in
set_option maxRecDepth 100000 in
theorem streams_any (lb lo nl kl bb bo nb kb cb co nc kc : Nat) (L B K : Option Addr) (f cl mu : Bool) (w : World) (hL : 0 < nl → L = some ⟨lb, lo, none⟩) (hB : 0 < nb → B = some ⟨bb, bo, none⟩) (hK : 0 < nc → K = some ⟨cb, co, none⟩)
    (rl : R8 w lb lo nl) (rb : RU w bb bo nb) (rc : R8 w cb co nc) (ml : nl ≤ 9223372036854775807) (mb : nb ≤ 17592186044416) (mc : nc ≤ 140737488355328) :
    Calls Try.prog 7 #[.slice L nl kl, .slice B nb kb, .slice K nc kc, .bool f, .bool cl, .bool mu] w fun e w' => e = .returned (.bool true) ∧ But [] w w' := by
  have HL := Lib.hid hL
  have HB := Lib.hid hB
  have HK := Lib.hid hK
  have RLK := Lib.hid rc
  clear hL hB hK rc
  obtain ⟨w0, hw0, hb0, hR0⟩ : ∃ w0, w.alloc (.cells #[.bool false] 4) = w0 ∧ But [] w w0 ∧ w0.heap[w.heap.size]? = some (.cells #[.bool false] 4 (0, 0)) := ⟨_, rfl, (But.refl _ _).alloc _, heap_alloc_new w _⟩
  generalize hb12 : w.heap.size = b12 at hR0
  have HB12 := Lib.hid hb12
  refine (callsIn_wide (n := 6)).1 (callsIn_of_wp_marks Try.func7 rfl trivial (wpIn_wide.2 ?_) rfl)
  simp only [Try.ntmps7, List.size_toArray, List.length_cons, List.length_nil, Nat.reduceAdd, Nat.reduceSub, Array.replicate_succ, Array.replicate_zero, List.push_toArray, List.append_toArray, List.nil_append, List.cons_append]
  go_wp2_with fail
  refine (works_full lb lo nl kl L w0 HL.out (rl.keep hb0 (by simp)) ml).mono ?_
  rintro e w1 ⟨A, fb, fk, n, Sc, rfl, hm4, hA, hsec, hpl, hAK, hb1⟩
  have HA := Lib.hid hA
  have HAK := Lib.hid hAK
  clear hA HL rl hAK hw0
  obtain ⟨w2, hw2, hb2, hF, hG⟩ : ∃ w2, (w1.alloc (.cells #[.complex .f64 4604930618986332160 4602678819172646912, .slice A n fk] 28)).alloc (.cells #[.bool f, .bool cl, .bool mu] 57) = w2 ∧ But [] w1 w2 ∧ w2.heap[w1.heap.size]? = some (.cells #[.complex .f64 4604930618986332160 4602678819172646912, .slice A n fk] 28 (0, 0)) ∧ w2.heap[w1.heap.size + 1]? = some (.cells #[.bool f, .bool cl, .bool mu] 57 (0, 0)) :=
    ⟨_, rfl, ((But.refl _ _).alloc _).alloc _, (Below.heap_alloc _ _ _ (by simp)).trans (heap_alloc_new w1 _), by have := heap_alloc_new (w1.alloc (.cells #[.complex .f64 4604930618986332160 4602678819172646912, .slice A n fk] 28)) (.cells #[.bool f, .bool cl, .bool mu] 57); simpa using this⟩
  have HW2 := Lib.hid hw2
  clear hw2
  go_wp2_with fail
  rw [HW2.out]
  clear HW2
  generalize hFe : w1.heap.size = F at *
  have HFE := Lib.hid hFe
  clear hFe
  have hb02 := (hb0.trans hb1).trans hb2
  refine (raw_any bb bo nb kb B w2 HB.out (rb.keep hb02 (by simp)) mb).mono ?_
  rintro e w3 ⟨v, xs, rfl, hor, hb3⟩
  obtain ⟨X, gx, cx, rfl, hcx, hX, hxrc, hgx⟩ := hor.shape3
  rw [Nat.mul_one] at hxrc
  have HX := Lib.hid hX
  clear HB rb hX
  go_upto_if 41 with fail
  go_cut [15] from 39 (fun s15 wx => w3 = wx ∧ ∃ M c : Nat, s15 = .slice X M c ∧ M ≤ c ∧ M ≤ 300 ∧ Hid (0 < M → X = some ⟨gx, 0, none⟩) ∧ RC w3 gx 0 M xs)
  case first =>
    by_cases h3 : 300 < nb / 2
    · have t1 : decide ((300 : Int) < ((nb / 2 : Nat) : Int)) = true := by simp; omega
      go_wp2
      go_meet
      case rel => exact ⟨rfl, 300, cx, rfl, by omega, by omega, fun h => HX.out (by omega), hxrc.less (by omega)⟩
    · have t1 : decide ((300 : Int) < ((nb / 2 : Nat) : Int)) = false := by simp; omega
      go_wp2
      go_meet
      case rel => exact ⟨rfl, nb / 2, cx, rfl, hcx, by omega, HX.out, hxrc⟩
  case rest =>
    obtain ⟨rfl, M, c, rfl, hMc, hM, HX0, hx0⟩ := hcut
    clear HX hxrc
    have hGl : F + 1 < w2.heap.size := (Array.getElem?_eq_some_iff.1 hG).1
    obtain ⟨gx, hgx3, hgx2, HXX, hx⟩ : ∃ g, g < w3.heap.size ∧ b12 < g ∧ Hid (0 < M → X = some ⟨g, 0, none⟩) ∧ RC w3 g 0 M xs := by
      have h1 := (Array.getElem?_eq_some_iff.1 hR0).1
      have h2 := hb1.size
      have h3 := hb2.size
      have h4 := hb3.size
      have h5 := HFE.out
      by_cases h0 : M = 0
      · exact ⟨F, by omega, by omega, fun h => by omega, fun j hj => by omega⟩
      · obtain ⟨_, h1, _⟩ := hx0 0 (by omega)
        exact ⟨gx, World.block_lt_of_cell? _ _ h1, by omega, HX0, hx0⟩
    clear HX0 hx0 hor
    have HF3 := Lib.hid (hb3.heap hF (by simp))
    have HG3 := Lib.hid (hb3.heap hG (by simp))
    have HR3 := Lib.hid (((hb1.trans hb2).trans hb3).heap hR0 (by simp))
    have hsec3 := (hsec.keep hb2 (by simp)).keep hb3 (by simp)
    have hgf : FinC GN := by unfold FinC; decide +kernel
    have hgw : wf GN := by simp [wf, GN]
    have hb13 : But [] w w3 := hb02.trans hb3
    have HPL := Lib.hid hpl
    have cF0 : w3.cell? ⟨F, 0, none⟩ = some (.complex .f64 4604930618986332160 4602678819172646912) := by rw [cell_of_row w3 F 0 _ _ _ HF3.out]; rfl
    have cF1 : w3.cell? ⟨F, 1, none⟩ = some (.slice A n fk) := by rw [cell_of_row w3 F 1 _ _ _ HF3.out]; rfl
    have cG0 : w3.cell? ⟨F + 1, 0, none⟩ = some (.bool f) := by rw [cell_of_row w3 (F + 1) 0 _ _ _ HG3.out]; rfl
    have cG1 : w3.cell? ⟨F + 1, 1, none⟩ = some (.bool cl) := by rw [cell_of_row w3 (F + 1) 1 _ _ _ HG3.out]; rfl
    have cG2 : w3.cell? ⟨F + 1, 2, none⟩ = some (.bool mu) := by rw [cell_of_row w3 (F + 1) 2 _ _ _ HG3.out]; rfl
    have s3 := hb3.size
    have hR3l : b12 < w3.heap.size := (Array.getElem?_eq_some_iff.1 HR3.out).1
    clear hF hG hb1 hb2 hb3 hsec hpl hR0 hb0 hb02
    go_wp2_with fail
    refine (snew_any GN GN n fb 0 fk A f cl mu Sc _ (by decide) hgw hgf (by omega) HAK.out hsec3 HPL.out.fin).mono ?_
    rintro e w4 ⟨d0, p0, q0, rfl, hd0, hp0, hq0, hst4, hb4⟩
    replace cF0 := hb4.cell cF0 (by simp)
    replace cF1 := hb4.cell cF1 (by simp)
    replace cG0 := hb4.cell cG0 (by simp)
    replace cG1 := hb4.cell cG1 (by simp)
    replace cG2 := hb4.cell cG2 (by simp)
    go_wp2_with fail
    refine (gnew_any GN GN n fb 0 fk A f cl mu Sc _ (by decide) hgw hgf (by omega) HAK.out (hsec3.keep hb4 (by simp)) HPL.out.fin).mono ?_
    rintro e w5 ⟨do_, co_, po, qo, p2o, rfl, hdo, hco, hpo, hqo, hp2o, hgo, hb5⟩
    clear cF0 cF1 cG0 cG1 cG2
    have hst5 := hst4.keep hb5 (by simp) (by simp) (by simp)
    have d4 := hst4.dl
    have q4 := hst4.ql
    have p4 := hst4.pl
    have hcan := rc_canon hsec3
    have HCAN := Lib.hid hcan
    clear hst4 hcan
    go_wp2_with fail
    refine (sat_any d0 p0 q0 n f cl mu 0 0 GN Sc _ _ hst5).mono ?_
    rintro e w5' ⟨rfl, rfl⟩
    go_wp2_with fail
    refine (ssave_any d0 p0 q0 n f cl mu 0 0 GN Sc _ _ hst5).mono ?_
    rintro e w6 ⟨sb, sc, rfl, hsb, _, hb6, _⟩
    have hx6 := ((hx.keep hb4 (by simp)).keep hb5 (by simp)).keep hb6 (by simp)
    have hgo6 := hgo.keep hb6 (by simp) (by simp) (by simp) (by simp) (by simp)
    have hst6 := hst5.keep hb6 (by simp) (by simp) (by simp)
    have HR6 := Lib.hid (((hb4.trans hb5).trans hb6).heap HR3.out (by simp))
    have hw6 : But [] w w6 := ((hb13.trans hb4).trans hb5).trans hb6
    have s4 := hb4.size
    have s5 := hb5.size
    have s6 := hb6.size
    clear hx hst5 hgo HR3 hb4 hb5 hb6 hb13
    have t38 : ¬ ((38 + 112 * n : Nat) : Int) = 0 := by omega
    go_wp2_with fail
    refine (grun_any do_ co_ po qo p2o n gx 0 M c f cl mu 0 (by omega) X HXX.out (by omega) GN xs Sc _ _ hx6 (by omega) hgo6).mono ?_
    rintro e w7 ⟨v, qo', rfl, horO, hqo', _, hb7⟩
    obtain ⟨V0, vb0, vk, rfl, hV, hvrc, hvb⟩ := horO.shape2
    rw [Nat.mul_one] at hvrc
    have s7 := hb7.size
    obtain ⟨vb, HVV, hwant, hvbl, nv1, nv2⟩ : ∃ g, Hid (0 < M → V0 = some ⟨g, 0, none⟩) ∧ RC w7 g 0 M (qYs f cl mu n GN Sc (fun _ => Z0) xs) ∧ g < w7.heap.size ∧ g ≠ d0 ∧ g ≠ q0 := by
      by_cases h0 : M = 0
      · exact ⟨gx, Lib.hid fun h => by omega, fun j hj => by omega, by omega, by omega, by omega⟩
      · obtain ⟨_, h1, _⟩ := hvrc 0 (by omega)
        exact ⟨vb0, Lib.hid hV, hvrc, World.block_lt_of_cell? _ _ h1, by omega, by omega⟩
    have hx7 := hx6.keep hb7 (by simp; omega)
    have hst7 := hst6.keep hb7 (by simp; omega) (by simp; omega) (by simp; omega)
    have HR7 := Lib.hid (hb7.heap HR6.out (by simp; omega))
    have hw12 := HB12.out
    have hw7 : But [] w w7 := hw6.then hb7 (fun i hi hm => by simp at hm; omega)
    clear horO hV hvrc hx6 hgo6 hst6 HR6 hw6 hw12
    go_wp2_with fail
    obtain ⟨wB, hwB, hbB, hgB, hsB⟩ : ∃ wB, w7.alloc (.cells #[.slice none 0 0] 34) = wB ∧ But [] w7 wB ∧ wB.heap[w7.heap.size]? = some (.cells #[.slice none 0 0] 34 (0, 0)) ∧ wB.heap.size = w7.heap.size + 1 := ⟨_, rfl, (But.refl _ _).alloc _, heap_alloc_new w7 _, by simp⟩
    rw [hwB]
    have hxB := hx7.keep hbB (by simp)
    have hwantB := hwant.keep hbB (by simp)
    have hstB := hst7.keep hbB (by simp) (by simp) (by simp)
    have HRB := Lib.hid (hbB.heap HR7.out (by simp))
    have hwwB := hw7.trans hbB
    have hvl7 := hvbl
    generalize hb21 : w7.heap.size = b21 at *
    have HSB := Lib.hid hsB
    have HGB := Lib.hid hgB
    clear hwB hbB hsB hgB hb21 hx7 hwant hst7 HR7 hw7
    have k1 : d0 < b21 ∧ p0 < b21 ∧ q0 < b21 ∧ gx < b21 ∧ vb < b21 ∧ b12 < b21 := by omega
    have k2 : gx ≠ d0 ∧ gx ≠ q0 ∧ b12 ≠ d0 ∧ b12 ≠ q0 ∧ b12 < gx := by omega
    have k3 := HB12.out
    have k4 : b12 < d0 ∧ b12 < q0 := by omega
    clear hd0 hp0 hq0 hdo hco hpo hqo hp2o d4 q4 p4 hsb hqo' s3 s4 s5 s6 s7 hvbl hvb hGl hgx3 hgx2 hR3l hvl7 hb7 hgx hcx t38
    have hb21l : b21 < wB.heap.size := by have := HSB.out; omega
    clear k3
    refine wp_loop (LI wB K X V0 nc kc b12 M c vk b21 d0 p0 q0 n f cl mu Sc xs) (Lmu M nc) ⟨_, _, _, _, _, _, _, _, _, _, _, _, _, _, _, _, _, _, _, _, _, _, _, _, _, _, _, _, _, _, _, _, _, _, _, _, _, _, _, _, _, _, _, _, _, _, _, _, _, _, _, _, _, _, _, _, _, _, _, _, _, _, _, _, _, _, _, _, _, _, _, _, _, _, _, _, _, _, _, _, _, _, _, _, _, _, _, _, _, _, _, _, _, _, _, _, _, _, _, _, _, _, _, _, _, _, _, _, _, _, _, _, _, _, _, _, _, _, _, _, _, _, _, _, _, _, _, _, _, _, _, _, _, _, _, _, _, _, _, _, _, _, _, _, _, _, _, _, _, _, _, _, _, _, _, _, _, _, _, _, _, _, _, _, _, _, _, _, _, _, _, _, _, _, _, _, _, _, _, _, _, _, _, _, _, _, _, _, _, _, _, _, _, _, _, _, _, _, _, _, _, _, _, _, _, _, _, _, _, _, _, _, _, 0, 0, d0, p0, q0, .slice none 0 0, [], Nat.zero_le _, Nat.zero_le _, ⟨hstB, ⟨HGB.out, OR.nil _ _ _ _ _, But.refl _ _, fun g hg => by simp [Value.ownBlock] at hg, fun D hD => by simp at hD⟩, .inl rfl, .inl rfl, .inl rfl, List.nodup_nil⟩, rfl⟩ ?_
    intro a' wr hinv
    obtain ⟨u0, hinv⟩ := hinv
    obtain ⟨u1, hinv⟩ := hinv
    obtain ⟨u3, hinv⟩ := hinv
    obtain ⟨u4, hinv⟩ := hinv
    obtain ⟨u5, hinv⟩ := hinv
    obtain ⟨u6, hinv⟩ := hinv
    obtain ⟨u7, hinv⟩ := hinv
    obtain ⟨u8, hinv⟩ := hinv
    obtain ⟨u9, hinv⟩ := hinv
    obtain ⟨u10, hinv⟩ := hinv
    obtain ⟨u11, hinv⟩ := hinv
    obtain ⟨u13, hinv⟩ := hinv
    obtain ⟨u14, hinv⟩ := hinv
    obtain ⟨u17, hinv⟩ := hinv
    obtain ⟨u18, hinv⟩ := hinv
    obtain ⟨u19, hinv⟩ := hinv
    obtain ⟨u24, hinv⟩ := hinv
    obtain ⟨u25, hinv⟩ := hinv
    obtain ⟨u26, hinv⟩ := hinv
    obtain ⟨u27, hinv⟩ := hinv
    obtain ⟨u28, hinv⟩ := hinv
    obtain ⟨u29, hinv⟩ := hinv
    obtain ⟨u30, hinv⟩ := hinv
    obtain ⟨u31, hinv⟩ := hinv
    obtain ⟨u32, hinv⟩ := hinv
    obtain ⟨u33, hinv⟩ := hinv
    obtain ⟨u34, hinv⟩ := hinv
    obtain ⟨u35, hinv⟩ := hinv
    obtain ⟨u36, hinv⟩ := hinv
    obtain ⟨u37, hinv⟩ := hinv
    obtain ⟨u38, hinv⟩ := hinv
    obtain ⟨u39, hinv⟩ := hinv
    obtain ⟨u40, hinv⟩ := hinv
    obtain ⟨u41, hinv⟩ := hinv
    obtain ⟨u42, hinv⟩ := hinv
    obtain ⟨u43, hinv⟩ := hinv
    obtain ⟨u44, hinv⟩ := hinv
    obtain ⟨u45, hinv⟩ := hinv
    obtain ⟨u46, hinv⟩ := hinv
    obtain ⟨u47, hinv⟩ := hinv
    obtain ⟨u48, hinv⟩ := hinv
    obtain ⟨u49, hinv⟩ := hinv
    obtain ⟨u50, hinv⟩ := hinv
    obtain ⟨u51, hinv⟩ := hinv
    obtain ⟨u52, hinv⟩ := hinv
    obtain ⟨u53, hinv⟩ := hinv
    obtain ⟨u54, hinv⟩ := hinv
    obtain ⟨u55, hinv⟩ := hinv
    obtain ⟨u56, hinv⟩ := hinv
    obtain ⟨u57, hinv⟩ := hinv
    obtain ⟨u58, hinv⟩ := hinv
    obtain ⟨u59, hinv⟩ := hinv
    obtain ⟨u60, hinv⟩ := hinv
    obtain ⟨u61, hinv⟩ := hinv
    obtain ⟨u62, hinv⟩ := hinv
    obtain ⟨u63, hinv⟩ := hinv
    obtain ⟨u64, hinv⟩ := hinv
    obtain ⟨u65, hinv⟩ := hinv
    obtain ⟨u66, hinv⟩ := hinv
    obtain ⟨u67, hinv⟩ := hinv
    obtain ⟨u68, hinv⟩ := hinv
    obtain ⟨u69, hinv⟩ := hinv
    obtain ⟨u70, hinv⟩ := hinv
    obtain ⟨u71, hinv⟩ := hinv
    obtain ⟨u72, hinv⟩ := hinv
    obtain ⟨u73, hinv⟩ := hinv
    obtain ⟨u74, hinv⟩ := hinv
    obtain ⟨u75, hinv⟩ := hinv
    obtain ⟨u76, hinv⟩ := hinv
    obtain ⟨u77, hinv⟩ := hinv
    obtain ⟨u78, hinv⟩ := hinv
    obtain ⟨u79, hinv⟩ := hinv
    obtain ⟨u80, hinv⟩ := hinv
    obtain ⟨u81, hinv⟩ := hinv
    obtain ⟨u82, hinv⟩ := hinv
    obtain ⟨u83, hinv⟩ := hinv
    obtain ⟨u84, hinv⟩ := hinv
    obtain ⟨u85, hinv⟩ := hinv
    obtain ⟨u86, hinv⟩ := hinv
    obtain ⟨u87, hinv⟩ := hinv
    obtain ⟨u88, hinv⟩ := hinv
    obtain ⟨u89, hinv⟩ := hinv
    obtain ⟨u90, hinv⟩ := hinv
    obtain ⟨u91, hinv⟩ := hinv
    obtain ⟨u92, hinv⟩ := hinv
    obtain ⟨u93, hinv⟩ := hinv
    obtain ⟨u94, hinv⟩ := hinv
    obtain ⟨u95, hinv⟩ := hinv
    obtain ⟨u96, hinv⟩ := hinv
    obtain ⟨u97, hinv⟩ := hinv
    obtain ⟨u98, hinv⟩ := hinv
    obtain ⟨u99, hinv⟩ := hinv
    obtain ⟨u100, hinv⟩ := hinv
    obtain ⟨u101, hinv⟩ := hinv
    obtain ⟨u102, hinv⟩ := hinv
    obtain ⟨u103, hinv⟩ := hinv
    obtain ⟨u104, hinv⟩ := hinv
    obtain ⟨u105, hinv⟩ := hinv
    obtain ⟨u106, hinv⟩ := hinv
    obtain ⟨u107, hinv⟩ := hinv
    obtain ⟨u108, hinv⟩ := hinv
    obtain ⟨u109, hinv⟩ := hinv
    obtain ⟨u110, hinv⟩ := hinv
    obtain ⟨u111, hinv⟩ := hinv
    obtain ⟨u112, hinv⟩ := hinv
    obtain ⟨u113, hinv⟩ := hinv
    obtain ⟨u114, hinv⟩ := hinv
    obtain ⟨u115, hinv⟩ := hinv
    obtain ⟨u116, hinv⟩ := hinv
    obtain ⟨u117, hinv⟩ := hinv
    obtain ⟨u118, hinv⟩ := hinv
    obtain ⟨u119, hinv⟩ := hinv
    obtain ⟨u120, hinv⟩ := hinv
    obtain ⟨u121, hinv⟩ := hinv
    obtain ⟨u122, hinv⟩ := hinv
    obtain ⟨u123, hinv⟩ := hinv
    obtain ⟨u124, hinv⟩ := hinv
    obtain ⟨u125, hinv⟩ := hinv
    obtain ⟨u126, hinv⟩ := hinv
    obtain ⟨u127, hinv⟩ := hinv
    obtain ⟨u128, hinv⟩ := hinv
    obtain ⟨u129, hinv⟩ := hinv
    obtain ⟨u130, hinv⟩ := hinv
    obtain ⟨u131, hinv⟩ := hinv
    obtain ⟨u132, hinv⟩ := hinv
    obtain ⟨u133, hinv⟩ := hinv
    obtain ⟨u134, hinv⟩ := hinv
    obtain ⟨u135, hinv⟩ := hinv
    obtain ⟨u136, hinv⟩ := hinv
    obtain ⟨u137, hinv⟩ := hinv
    obtain ⟨u138, hinv⟩ := hinv
    obtain ⟨u139, hinv⟩ := hinv
    obtain ⟨u140, hinv⟩ := hinv
    obtain ⟨u141, hinv⟩ := hinv
    obtain ⟨u142, hinv⟩ := hinv
    obtain ⟨u143, hinv⟩ := hinv
    obtain ⟨u144, hinv⟩ := hinv
    obtain ⟨u145, hinv⟩ := hinv
    obtain ⟨u146, hinv⟩ := hinv
    obtain ⟨u147, hinv⟩ := hinv
    obtain ⟨u148, hinv⟩ := hinv
    obtain ⟨u149, hinv⟩ := hinv
    obtain ⟨u150, hinv⟩ := hinv
    obtain ⟨u151, hinv⟩ := hinv
    obtain ⟨u152, hinv⟩ := hinv
    obtain ⟨u153, hinv⟩ := hinv
    obtain ⟨u154, hinv⟩ := hinv
    obtain ⟨u155, hinv⟩ := hinv
    obtain ⟨u156, hinv⟩ := hinv
    obtain ⟨u157, hinv⟩ := hinv
    obtain ⟨u158, hinv⟩ := hinv
    obtain ⟨u159, hinv⟩ := hinv
    obtain ⟨u160, hinv⟩ := hinv
    obtain ⟨u161, hinv⟩ := hinv
    obtain ⟨u162, hinv⟩ := hinv
    obtain ⟨u163, hinv⟩ := hinv
    obtain ⟨u164, hinv⟩ := hinv
    obtain ⟨u165, hinv⟩ := hinv
    obtain ⟨u166, hinv⟩ := hinv
    obtain ⟨u167, hinv⟩ := hinv
    obtain ⟨u168, hinv⟩ := hinv
    obtain ⟨u169, hinv⟩ := hinv
    obtain ⟨u170, hinv⟩ := hinv
    obtain ⟨u171, hinv⟩ := hinv
    obtain ⟨u172, hinv⟩ := hinv
    obtain ⟨u173, hinv⟩ := hinv
    obtain ⟨u174, hinv⟩ := hinv
    obtain ⟨u175, hinv⟩ := hinv
    obtain ⟨u176, hinv⟩ := hinv
    obtain ⟨u177, hinv⟩ := hinv
    obtain ⟨u178, hinv⟩ := hinv
    obtain ⟨u179, hinv⟩ := hinv
    obtain ⟨u180, hinv⟩ := hinv
    obtain ⟨u181, hinv⟩ := hinv
    obtain ⟨u182, hinv⟩ := hinv
    obtain ⟨u183, hinv⟩ := hinv
    obtain ⟨u184, hinv⟩ := hinv
    obtain ⟨u185, hinv⟩ := hinv
    obtain ⟨u186, hinv⟩ := hinv
    obtain ⟨u187, hinv⟩ := hinv
    obtain ⟨u188, hinv⟩ := hinv
    obtain ⟨u189, hinv⟩ := hinv
    obtain ⟨u190, hinv⟩ := hinv
    obtain ⟨u191, hinv⟩ := hinv
    obtain ⟨u192, hinv⟩ := hinv
    obtain ⟨u193, hinv⟩ := hinv
    obtain ⟨u194, hinv⟩ := hinv
    obtain ⟨u195, hinv⟩ := hinv
    obtain ⟨u196, hinv⟩ := hinv
    obtain ⟨u197, hinv⟩ := hinv
    obtain ⟨u198, hinv⟩ := hinv
    obtain ⟨u199, hinv⟩ := hinv
    obtain ⟨u200, hinv⟩ := hinv
    obtain ⟨u201, hinv⟩ := hinv
    obtain ⟨u202, hinv⟩ := hinv
    obtain ⟨u203, hinv⟩ := hinv
    obtain ⟨u204, hinv⟩ := hinv
    obtain ⟨u205, hinv⟩ := hinv
    obtain ⟨u206, hinv⟩ := hinv
    obtain ⟨u207, hinv⟩ := hinv
    obtain ⟨u208, hinv⟩ := hinv
    obtain ⟨u209, hinv⟩ := hinv
    obtain ⟨u210, hinv⟩ := hinv
    obtain ⟨u211, hinv⟩ := hinv
    obtain ⟨u212, hinv⟩ := hinv
    obtain ⟨u213, hinv⟩ := hinv
    obtain ⟨u214, hinv⟩ := hinv
    obtain ⟨u215, hinv⟩ := hinv
    obtain ⟨u216, hinv⟩ := hinv
    obtain ⟨u217, hinv⟩ := hinv
    obtain ⟨u218, hinv⟩ := hinv
    obtain ⟨u219, hinv⟩ := hinv
    obtain ⟨u220, hinv⟩ := hinv
    obtain ⟨at_, I, d, p, q, v, Ds, hat, hI, hlp, ha⟩ := hinv
    subst ha
    by_cases hlt : at_ < M
    · obtain rfl := HXX.out (by omega)
      have h3 : I % 3 = 0 ∨ I % 3 = 1 ∨ I % 3 = 2 := by omega
      rcases h3 with h3 | h3 | h3
      · exact round0_any w wB wr K V0 cb co nc kc b12 gx M c vk b21 d0 p0 q0 n f cl mu Sc xs at_ I d p q v Ds u0 u1 u3 u4 u5 u6 u7 u8 u9 u10 u11 u13 u14 u17 u18 u19 u24 u25 u26 u27 u28 u29 u30 u31 u32 u33 u34 u35 u36 u37 u38 u39 u40 u41 u42 u43 u44 u45 u46 u47 u48 u49 u50 u51 u52 u53 u54 u55 u56 u57 u58 u59 u60 u61 u62 u63 u64 u65 u66 u67 u68 u69 u70 u71 u72 u73 u74 u75 u76 u77 u78 u79 u80 u81 u82 u83 u84 u85 u86 u87 u88 u89 u90 u91 u92 u93 u94 u95 u96 u97 u98 u99 u100 u101 u102 u103 u104 u105 u106 u107 u108 u109 u110 u111 u112 u113 u114 u115 u116 u117 u118 u119 u120 u121 u122 u123 u124 u125 u126 u127 u128 u129 u130 u131 u132 u133 u134 u135 u136 u137 u138 u139 u140 u141 u142 u143 u144 u145 u146 u147 u148 u149 u150 u151 u152 u153 u154 u155 u156 u157 u158 u159 u160 u161 u162 u163 u164 u165 u166 u167 u168 u169 u170 u171 u172 u173 u174 u175 u176 u177 u178 u179 u180 u181 u182 u183 u184 u185 u186 u187 u188 u189 u190 u191 u192 u193 u194 u195 u196 u197 u198 u199 u200 u201 u202 u203 u204 u205 u206 u207 u208 u209 u210 u211 u212 u213 u214 u215 u216 u217 u218 u219 u220 _ HK.out RLK.out mc hm4 hMc hM HCAN.out HPL.out.fin hxB HRB.out hwwB ⟨k1.1, k1.2.1, k1.2.2.1, k1.2.2.2.1, k1.2.2.2.2.2⟩ ⟨k2.1, k2.2.1, k4.1, k4.2⟩ hb21l HB12.out hI hlt h3 hlp
      · exact round1_any w wB wr K V0 cb co nc kc b12 gx M c vk b21 d0 p0 q0 n f cl mu Sc xs at_ I d p q v Ds u0 u1 u3 u4 u5 u6 u7 u8 u9 u10 u11 u13 u14 u17 u18 u19 u24 u25 u26 u27 u28 u29 u30 u31 u32 u33 u34 u35 u36 u37 u38 u39 u40 u41 u42 u43 u44 u45 u46 u47 u48 u49 u50 u51 u52 u53 u54 u55 u56 u57 u58 u59 u60 u61 u62 u63 u64 u65 u66 u67 u68 u69 u70 u71 u72 u73 u74 u75 u76 u77 u78 u79 u80 u81 u82 u83 u84 u85 u86 u87 u88 u89 u90 u91 u92 u93 u94 u95 u96 u97 u98 u99 u100 u101 u102 u103 u104 u105 u106 u107 u108 u109 u110 u111 u112 u113 u114 u115 u116 u117 u118 u119 u120 u121 u122 u123 u124 u125 u126 u127 u128 u129 u130 u131 u132 u133 u134 u135 u136 u137 u138 u139 u140 u141 u142 u143 u144 u145 u146 u147 u148 u149 u150 u151 u152 u153 u154 u155 u156 u157 u158 u159 u160 u161 u162 u163 u164 u165 u166 u167 u168 u169 u170 u171 u172 u173 u174 u175 u176 u177 u178 u179 u180 u181 u182 u183 u184 u185 u186 u187 u188 u189 u190 u191 u192 u193 u194 u195 u196 u197 u198 u199 u200 u201 u202 u203 u204 u205 u206 u207 u208 u209 u210 u211 u212 u213 u214 u215 u216 u217 u218 u219 u220 _ HK.out RLK.out mc hm4 hMc hM HCAN.out HPL.out.fin hxB HRB.out hwwB ⟨k1.1, k1.2.1, k1.2.2.1, k1.2.2.2.1, k1.2.2.2.2.2⟩ ⟨k2.1, k2.2.1, k4.1, k4.2⟩ hb21l HB12.out hI hlt h3 hlp
      · exact round2_any w wB wr K V0 cb co nc kc b12 gx M c vk b21 d0 p0 q0 n f cl mu Sc xs at_ I d p q v Ds u0 u1 u3 u4 u5 u6 u7 u8 u9 u10 u11 u13 u14 u17 u18 u19 u24 u25 u26 u27 u28 u29 u30 u31 u32 u33 u34 u35 u36 u37 u38 u39 u40 u41 u42 u43 u44 u45 u46 u47 u48 u49 u50 u51 u52 u53 u54 u55 u56 u57 u58 u59 u60 u61 u62 u63 u64 u65 u66 u67 u68 u69 u70 u71 u72 u73 u74 u75 u76 u77 u78 u79 u80 u81 u82 u83 u84 u85 u86 u87 u88 u89 u90 u91 u92 u93 u94 u95 u96 u97 u98 u99 u100 u101 u102 u103 u104 u105 u106 u107 u108 u109 u110 u111 u112 u113 u114 u115 u116 u117 u118 u119 u120 u121 u122 u123 u124 u125 u126 u127 u128 u129 u130 u131 u132 u133 u134 u135 u136 u137 u138 u139 u140 u141 u142 u143 u144 u145 u146 u147 u148 u149 u150 u151 u152 u153 u154 u155 u156 u157 u158 u159 u160 u161 u162 u163 u164 u165 u166 u167 u168 u169 u170 u171 u172 u173 u174 u175 u176 u177 u178 u179 u180 u181 u182 u183 u184 u185 u186 u187 u188 u189 u190 u191 u192 u193 u194 u195 u196 u197 u198 u199 u200 u201 u202 u203 u204 u205 u206 u207 u208 u209 u210 u211 u212 u213 u214 u215 u216 u217 u218 u219 u220 _ HK.out RLK.out mc hm4 hMc hM HCAN.out HPL.out.fin hxB HRB.out hwwB ⟨k1.1, k1.2.1, k1.2.2.1, k1.2.2.2.1, k1.2.2.2.2.2⟩ ⟨k2.1, k2.2.1, k4.1, k4.2⟩ hb21l HB12.out hI hlt h3 hlp
    · dsimp only
      obtain ⟨hS, hG, hdd, hpp, hqq, hnd⟩ := hlp
      have hBr := hG.2.2.1
      have hwr := hBr.size
      have hb21r := hG.1
      have hxr := hxB.keep hBr (by simp; omega)
      have HRr := Lib.hid (hBr.heap HRB.out (by simp; omega))
      obtain rfl : at_ = M := by omega
      obtain ⟨VA, gv, cv, rfl, hcv, hVA, hvrc, hgv⟩ := hG.2.1.shape3
      rw [Nat.mul_one] at hvrc
      have c21 : wr.cell? ⟨b21, 0, none⟩ = some (.slice VA at_ cv) := by rw [cell_of_row wr b21 0 _ _ _ hb21r]; rfl
      have hwant := hwantB.keep hBr (by simp; omega)
      go_wp2_with (go_at_call 23; refine (lists_any VA V0 gv 0 vb 0 at_ cv vk (by omega) (or3 hVA HVV.out) _ _ hvrc hwant).mono ?_; rintro e w9 ⟨rfl, hb9⟩; have cR := hb9.cell ((cell_of_row wr b12 0 _ _ _ HRr.out).trans (c := some (.bool false)) rfl) (by simp); have zR := blk_free (i := 0) (hb9.heap HRr.out (by simp)))
      have hs9 := hb9.size
      have hkb := HB12.out
      have hwl : w.heap.size ≤ b12 := by omega
      have hb12l : b12 < wB.heap.size := by omega
      have hS9 : But [b12] w9 (w9.setCell ⟨b12, 0, none⟩ (.bool true)) := (But.refl _ _).setCell _ _ (.inl (by simp))
      have hR9 := blk_set _ _ 0 _ _ (.bool true) (hb9.heap HRr.out (by simp))
      refine leave_marks Ds _ hnd (fun D hD => ?_) (fun W' hb' => ?_)
      · have hD' := hG.2.2.2.2 D hD
        exact hS9.heap (hb9.heap hD'.2 (by simp)) (by simp; omega)
      · have hR' := hb'.heap hR9 (fun hm => by have := (hG.2.2.2.2 _ hm).1; omega)
        have cR' : W'.cell? ⟨b12, 0, none⟩ = some (.bool true) := by rw [cell_of_row W' b12 0 _ _ _ hR']; rfl
        refine ⟨.bool true, by simp [results, Try.results7, go_sem, cR'], rfl, ?_⟩
        have h1 : But [] w wr := hwwB.then hBr (fun i hi hm => by simp at hm; omega)
        have h2 : But [] w (w9.setCell ⟨b12, 0, none⟩ (.bool true)) := (h1.trans hb9).then hS9 (fun i hi hm => by simp at hm; omega)
        exact h2.then hb' (fun i hi hm => by have := (hG.2.2.2.2 _ hm).1; have := hwwB.size; omega)

end Go.Proofs.Ytnmpofjegepmaaa
