/- The reader's roots. The reader's roots up to the bar. Lists of numbers: their text tells them. -/
import Derived.Test.YtnghppgpdeghfaaGreatDoorZf17
namespace Go.Proofs.YtnghppgpdeghfaaGreatDoor
open Go.RowKit Go.Proofs.YtnghppgpdeghfaaGreatDoor.Fl Go.Proofs.YtnghppgpdeghfaaGreatDoor.Pt Go.Proofs.YtnghppgpdeghfaaGreatDoor.Tx

def slen' : Value → Nat
  | .slice _ l _ => l
  | _ => 0
/-- What roots answers. -/
def RoP (R a : Nat) (bar : Bool) (s : ByteArray) (W : World) (e : Ending) (w' : World) : Prop := But [R] W w' ∧
  ((∃ l c v, ro bar s.data.toList 26 a 0 = (true, c, 0) ∧ e = .returned v ∧ OZ w' W.heap.size v l ∧ Rdr w' R s c ∧ Is s.data.toList a (lsT l ++ (if bar then [32, 124] else [])) c ∧ l.length ≤ 24 ∧ (∀ p ∈ l, p.1 < 18446744073709551616 ∧ p.2 < 18446744073709551616 ∧ finB p.1 p.2 = true)) ∨
   (∃ b f : Nat, ro bar s.data.toList 26 a 0 = (false, b, f) ∧ e = Fa b f))
set_option linter.unusedSimpArgs false in
set_option maxRecDepth 100000 in
set_option maxHeartbeats 4000000 in
theorem roots_false (R a : Nat) (s : ByteArray) (hs : s.size ≤ 65536) (ha : a ≤ s.size) (hR : 15 ≤ R) (W : World) (h : Rdr W R s a) (hg : Gl W) : Calls Tryz.prog 30 #[.pointer (some ⟨R, 0, none⟩), .bool false] W (RoP R a false s W) := by
  have HG := hg
  have hRW : R < W.heap.size := (Array.getElem?_eq_some_iff.1 h).1
  go_enter Tryz.func30, Tryz.ntmps30
  go_wp2_with fail
  go_loopw [5] (fun v wr => ∃ (l : List (Nat × Nat)) (c : Nat), l.length ≤ 24 ∧ c ≤ s.size ∧ Rdr wr R s c ∧ OZ wr W.heap.size v l ∧ But [R] W wr ∧ Hid (ro false s.data.toList 26 a 0 = ro false s.data.toList (26 - l.length) c l.length) ∧ Hid (Is s.data.toList a (lsT l) c) ∧ Hid (∀ p ∈ l, p.1 < 18446744073709551616 ∧ p.2 < 18446744073709551616 ∧ finB p.1 p.2 = true)) (fun v _ => 30 - slen' v)
  case atStart => exact ⟨[], a, by simp, ha, h, World.ownsRow_nil W _ _ _, But.refl _ _, Lib.hid rfl, Lib.hid (Is.nil _ _), Lib.hid (by simp)⟩
  case round =>
    obtain ⟨l, c, hl, hc, hr, hob, hb, hT, hI, hF⟩ := hrel
    have hgr := HG.keep hb (by simpa using hR)
    obtain ⟨z0, z1, zz⟩ := hr.cells
    by_cases he : c < s.size
    · have hnend : ¬ (false = false ∧ ¬ c < s.data.toList.length) := by simp; omega
      have t1 : decide ((c : Int) < (s.size : Int)) = true := decide_eq_true (by omega)
      have hfu : ro false s.data.toList (26 - l.length) c l.length = ro false s.data.toList ((25 - l.length) + 1) c l.length := by rw [show 26 - l.length = (25 - l.length) + 1 by omega]
      have hbF : ∀ b : Nat, ¬ ((false : Bool) = true ∧ s.data.toList[b]? = some 124) := fun b h => by cases h.1
      rcases pair (x := tk s.data.toList [32] c) with ⟨b, k1⟩ | ⟨b, k1⟩
      · have l1 : b ≤ s.size := by have := tk_le k1 (by simpa using hc); simpa using this
        by_cases h40 : s.data.toList[b]? = some 40
        · rcases hob.form with ⟨rfl, hl0⟩ | ⟨g, cap, cur, rfl, hgB, hgc, hcap, _hc⟩
          · have hn : ¬ l.length = 24 := by rw [hl0]; simp
            rcases pair (x := nu s.data.toList b) with ⟨c2, k2⟩ | ⟨c2, k2⟩
            · have l2 : c2 ≤ s.size := by have := nu_le k2 (by simpa using l1); simpa using this
              by_cases hfn : FiN s.data.toList b c2
              · have HE := Lib.hid (hT.out.trans (hfu.trans (ro_next hnend k1 (hbF b) (fun h => hn h.2) k2 hfn)))
                have HFN := Lib.hid hfn
                have x40 : decide (s.data.toList[b]? = some 40) = true := decide_eq_true h40
                have K1 := Lib.hid k1
                have K2 := Lib.hid k2
                clear k1 k2
                clear h40 hfn
                have HR := Lib.hid hr
                clear hr hfu hbF
                go_wp2_with fail
                go_quiet (fail)
                have hrq := HR.out.keep ((But.refl [] wr).drewN nq) (by simp)
                have hbq := (But.refl [R] wr).drewN nq
                have tok : True := trivial
                go_wp2_with (go_at_call 28; have _t := tok; clear tok; refine (take_ok (w0 := wr) [32] (by decide) (by omega) hc hrq hbq K1.out).mono ?_; rintro e w1 ⟨rfl, hr1, hb1⟩)
                have tok : True := trivial
                go_wp2_with (go_at_call 32; have _t := tok; clear tok; refine (see_c 40 true hr1 hb1 x40).mono ?_; rintro e w2 ⟨rfl, hr2, hb2⟩; have hg2 := hgr.keep hb2 (by simpa using hR); obtain ⟨y0, y1, yy⟩ := hr2.cells)
                have tok : True := trivial
                go_wp2_with (first | (go_at_call 29; have _t := tok; clear tok; refine (fi_ok hs l1 hR hr2 hg2 K2.out HFN.out).mono ?_; rintro e w3 ⟨x, y, rfl, hxy, hr3, hb3⟩; have HXY := Lib.hid hxy; have hob3 := hob.keep (hb2.trans hb3) (fun g' hg' => by cases hg'); have hbW := hb.trans (hb2.trans hb3); have hsz3 := hbW.size; clear hxy) | (at_builtin; refine wpList_append_oz rfl _ _ rfl W.heap.size (.slice none 0 0) l rfl (hob3.alloc _) ⟨w3.heap.size, 0, none⟩ 1 1 [(x, y)] rfl rfl (one_cplx w3 x y) (by omega) (by simp; omega) ?_; intro v' w' hob' hgr' hnn hown))
                go_roundw
                case rel =>
                  have hbg : But [] w3 w' := ((But.refl [] w3).alloc _).grown hgr' (fun g' hg' => by cases hg')
                  exact ⟨l ++ [(x, y)], c2, by rw [List.length_append, List.length_singleton]; omega, l2, hr3.keep hbg (by simp), hob', (hbW.alloc _).grown hgr' (fun g' hg' => by cases hg'), Lib.hid (by rw [List.length_append, List.length_singleton, show 26 - (l.length + 1) = 25 - l.length by omega]; exact HE.out), Lib.hid (by rw [lsT_snoc]; exact hI.out.trans ((tk_is _ _ _ _ K1.out).trans HXY.out.2.2.1)), Lib.hid (fun p hp => (List.mem_append.1 hp).elim (fun h => hF.out p h) (fun h => by rw [List.mem_singleton.1 h]; exact ⟨HXY.out.1, HXY.out.2.1, HXY.out.2.2.2⟩))⟩
                case measure =>
                  rcases hob'.form with ⟨_, h⟩ | ⟨g', cap', cur', rfl, _⟩
                  · exact absurd (congrArg List.length h) (by simp)
                  · simp only [slen', List.length_append, List.length_singleton]; omega
              · have HE := Lib.hid (hT.out.trans (hfu.trans (ro_nan hnend k1 (hbF b) (fun h => hn h.2) k2 hfn)))
                have HFN := Lib.hid hfn
                have x40 : decide (s.data.toList[b]? = some 40) = true := decide_eq_true h40
                have K1 := Lib.hid k1
                have K2 := Lib.hid k2
                clear k1 k2
                clear h40 hfn
                have HR := Lib.hid hr
                clear hr hfu hbF
                go_wp2_with fail
                go_quiet (fail)
                have hrq := HR.out.keep ((But.refl [] wr).drewN nq) (by simp)
                have hbq := (But.refl [R] wr).drewN nq
                have tok : True := trivial
                go_wp2_with (go_at_call 28; have _t := tok; clear tok; refine (take_ok (w0 := wr) [32] (by decide) (by omega) hc hrq hbq K1.out).mono ?_; rintro e w1 ⟨rfl, hr1, hb1⟩)
                have tok : True := trivial
                go_wp2_with (go_at_call 32; have _t := tok; clear tok; refine (see_c 40 true hr1 hb1 x40).mono ?_; rintro e w2 ⟨rfl, hr2, hb2⟩; have hg2 := hgr.keep hb2 (by simpa using hR); obtain ⟨y0, y1, yy⟩ := hr2.cells)
                have tok : True := trivial
                go_wp2_with (go_at_call 29; have _t := tok; clear tok; refine (fi_nan hs l1 hR hr2 hg2 K2.out HFN.out).mono ?_; rintro e w3 ⟨he3, hb3⟩; subst he3; simp only [Fa])
                exact ⟨rfl, hb.trans (hb2.trans hb3), .inr ⟨b, 5, HE.out, rfl⟩⟩
            · have HE := Lib.hid (hT.out.trans (hfu.trans (ro_nu hnend k1 (hbF b) (fun h => hn h.2) k2)))
              have x40 : decide (s.data.toList[b]? = some 40) = true := decide_eq_true h40
              have K1 := Lib.hid k1
              have K2 := Lib.hid k2
              clear k1 k2
              clear h40
              have HR := Lib.hid hr
              clear hr hfu hbF
              go_wp2_with fail
              go_quiet (fail)
              have hrq := HR.out.keep ((But.refl [] wr).drewN nq) (by simp)
              have hbq := (But.refl [R] wr).drewN nq
              have tok : True := trivial
              go_wp2_with (go_at_call 28; have _t := tok; clear tok; refine (take_ok (w0 := wr) [32] (by decide) (by omega) hc hrq hbq K1.out).mono ?_; rintro e w1 ⟨rfl, hr1, hb1⟩)
              have tok : True := trivial
              go_wp2_with (go_at_call 32; have _t := tok; clear tok; refine (see_c 40 true hr1 hb1 x40).mono ?_; rintro e w2 ⟨rfl, hr2, hb2⟩; have hg2 := hgr.keep hb2 (by simpa using hR); obtain ⟨y0, y1, yy⟩ := hr2.cells)
              have tok : True := trivial
              go_wp2_with (go_at_call 29; have _t := tok; clear tok; refine (finite_no R b c2 s hs l1 hR _ hr2 hg2 K2.out).mono ?_; rintro e w3 ⟨he3, hb3⟩; subst he3; simp only [Fa])
              exact ⟨rfl, hb.trans (hb2.trans hb3), .inr ⟨c2, 12, HE.out, rfl⟩⟩
          · by_cases hn : l.length = 24
            · have HE := Lib.hid (hT.out.trans (hfu.trans (ro_full hnend k1 (hbF b) ⟨h40, hn⟩)))
              have q24 : ((l.length : Int) == 24) = true := by simp; omega
              have x40 : decide (s.data.toList[b]? = some 40) = true := decide_eq_true h40
              have K1 := Lib.hid k1
              clear h40 k1
              have HR := Lib.hid hr
              clear hr hfu hbF
              go_wp2_with fail
              go_quiet (fail)
              have hrq := HR.out.keep ((But.refl [] wr).drewN nq) (by simp)
              have hbq := (But.refl [R] wr).drewN nq
              have tok : True := trivial
              go_wp2_with (go_at_call 28; have _t := tok; clear tok; refine (take_ok (w0 := wr) [32] (by decide) (by omega) hc hrq hbq K1.out).mono ?_; rintro e w1 ⟨rfl, hr1, hb1⟩)
              have tok : True := trivial
              go_wp2_with (go_at_call 32; have _t := tok; clear tok; refine (see_c 40 true hr1 hb1 x40).mono ?_; rintro e w2 ⟨rfl, hr2, hb2⟩; have hg2 := hgr.keep hb2 (by simpa using hR); obtain ⟨y0, y1, yy⟩ := hr2.cells)
              exact ⟨rfl, hb.trans hb2, .inr ⟨b, 2, HE.out, rfl⟩⟩
            · rcases pair (x := nu s.data.toList b) with ⟨c2, k2⟩ | ⟨c2, k2⟩
              · have l2 : c2 ≤ s.size := by have := nu_le k2 (by simpa using l1); simpa using this
                by_cases hfn : FiN s.data.toList b c2
                · have HE := Lib.hid (hT.out.trans (hfu.trans (ro_next hnend k1 (hbF b) (fun h => hn h.2) k2 hfn)))
                  have HFN := Lib.hid hfn
                  have q24 : ((l.length : Int) == 24) = false := by simp; omega
                  have x40 : decide (s.data.toList[b]? = some 40) = true := decide_eq_true h40
                  have K1 := Lib.hid k1
                  have K2 := Lib.hid k2
                  clear k1 k2
                  clear h40 hfn
                  have HR := Lib.hid hr
                  clear hr hfu hbF
                  go_wp2_with fail
                  go_quiet (fail)
                  have hrq := HR.out.keep ((But.refl [] wr).drewN nq) (by simp)
                  have hbq := (But.refl [R] wr).drewN nq
                  have tok : True := trivial
                  go_wp2_with (go_at_call 28; have _t := tok; clear tok; refine (take_ok (w0 := wr) [32] (by decide) (by omega) hc hrq hbq K1.out).mono ?_; rintro e w1 ⟨rfl, hr1, hb1⟩)
                  have tok : True := trivial
                  go_wp2_with (go_at_call 32; have _t := tok; clear tok; refine (see_c 40 true hr1 hb1 x40).mono ?_; rintro e w2 ⟨rfl, hr2, hb2⟩; have hg2 := hgr.keep hb2 (by simpa using hR); obtain ⟨y0, y1, yy⟩ := hr2.cells)
                  have tok : True := trivial
                  go_wp2_with (first | (go_at_call 29; have _t := tok; clear tok; refine (fi_ok hs l1 hR hr2 hg2 K2.out HFN.out).mono ?_; rintro e w3 ⟨x, y, rfl, hxy, hr3, hb3⟩; have HXY := Lib.hid hxy; have hob3 := hob.keep (hb2.trans hb3) (fun g' hg' => by cases hg'; simp; omega); have hbW := hb.trans (hb2.trans hb3); have hsz3 := hbW.size; clear hxy) | (at_builtin; refine wpList_append_oz rfl _ _ rfl W.heap.size (.slice (some ⟨g, 0, none⟩) l.length cap) l rfl (hob3.alloc _) ⟨w3.heap.size, 0, none⟩ 1 1 [(x, y)] rfl rfl (one_cplx w3 x y) (by omega) (by simp; omega) ?_; intro v' w' hob' hgr' hnn hown))
                  go_roundw
                  case rel =>
                    have hbg : But [g] w3 w' := ((But.refl [g] w3).alloc _).grown hgr' (fun g' hg' => by cases hg'; exact .inl (by simp))
                    exact ⟨l ++ [(x, y)], c2, by rw [List.length_append, List.length_singleton]; omega, l2, hr3.keep hbg (by simp; omega), hob', (hbW.alloc _).grown hgr' (fun g' hg' => by cases hg'; exact .inr hgB), Lib.hid (by rw [List.length_append, List.length_singleton, show 26 - (l.length + 1) = 25 - l.length by omega]; exact HE.out), Lib.hid (by rw [lsT_snoc]; exact hI.out.trans ((tk_is _ _ _ _ K1.out).trans HXY.out.2.2.1)), Lib.hid (fun p hp => (List.mem_append.1 hp).elim (fun h => hF.out p h) (fun h => by rw [List.mem_singleton.1 h]; exact ⟨HXY.out.1, HXY.out.2.1, HXY.out.2.2.2⟩))⟩
                  case measure =>
                    rcases hob'.form with ⟨_, h⟩ | ⟨g', cap', cur', rfl, _⟩
                    · exact absurd (congrArg List.length h) (by simp)
                    · simp only [slen', List.length_append, List.length_singleton]; omega
                · have HE := Lib.hid (hT.out.trans (hfu.trans (ro_nan hnend k1 (hbF b) (fun h => hn h.2) k2 hfn)))
                  have HFN := Lib.hid hfn
                  have q24 : ((l.length : Int) == 24) = false := by simp; omega
                  have x40 : decide (s.data.toList[b]? = some 40) = true := decide_eq_true h40
                  have K1 := Lib.hid k1
                  have K2 := Lib.hid k2
                  clear k1 k2
                  clear h40 hfn
                  have HR := Lib.hid hr
                  clear hr hfu hbF
                  go_wp2_with fail
                  go_quiet (fail)
                  have hrq := HR.out.keep ((But.refl [] wr).drewN nq) (by simp)
                  have hbq := (But.refl [R] wr).drewN nq
                  have tok : True := trivial
                  go_wp2_with (go_at_call 28; have _t := tok; clear tok; refine (take_ok (w0 := wr) [32] (by decide) (by omega) hc hrq hbq K1.out).mono ?_; rintro e w1 ⟨rfl, hr1, hb1⟩)
                  have tok : True := trivial
                  go_wp2_with (go_at_call 32; have _t := tok; clear tok; refine (see_c 40 true hr1 hb1 x40).mono ?_; rintro e w2 ⟨rfl, hr2, hb2⟩; have hg2 := hgr.keep hb2 (by simpa using hR); obtain ⟨y0, y1, yy⟩ := hr2.cells)
                  have tok : True := trivial
                  go_wp2_with (go_at_call 29; have _t := tok; clear tok; refine (fi_nan hs l1 hR hr2 hg2 K2.out HFN.out).mono ?_; rintro e w3 ⟨he3, hb3⟩; subst he3; simp only [Fa])
                  exact ⟨rfl, hb.trans (hb2.trans hb3), .inr ⟨b, 5, HE.out, rfl⟩⟩
              · have HE := Lib.hid (hT.out.trans (hfu.trans (ro_nu hnend k1 (hbF b) (fun h => hn h.2) k2)))
                have q24 : ((l.length : Int) == 24) = false := by simp; omega
                have x40 : decide (s.data.toList[b]? = some 40) = true := decide_eq_true h40
                have K1 := Lib.hid k1
                have K2 := Lib.hid k2
                clear k1 k2
                clear h40
                have HR := Lib.hid hr
                clear hr hfu hbF
                go_wp2_with fail
                go_quiet (fail)
                have hrq := HR.out.keep ((But.refl [] wr).drewN nq) (by simp)
                have hbq := (But.refl [R] wr).drewN nq
                have tok : True := trivial
                go_wp2_with (go_at_call 28; have _t := tok; clear tok; refine (take_ok (w0 := wr) [32] (by decide) (by omega) hc hrq hbq K1.out).mono ?_; rintro e w1 ⟨rfl, hr1, hb1⟩)
                have tok : True := trivial
                go_wp2_with (go_at_call 32; have _t := tok; clear tok; refine (see_c 40 true hr1 hb1 x40).mono ?_; rintro e w2 ⟨rfl, hr2, hb2⟩; have hg2 := hgr.keep hb2 (by simpa using hR); obtain ⟨y0, y1, yy⟩ := hr2.cells)
                have tok : True := trivial
                go_wp2_with (go_at_call 29; have _t := tok; clear tok; refine (finite_no R b c2 s hs l1 hR _ hr2 hg2 K2.out).mono ?_; rintro e w3 ⟨he3, hb3⟩; subst he3; simp only [Fa])
                exact ⟨rfl, hb.trans (hb2.trans hb3), .inr ⟨c2, 12, HE.out, rfl⟩⟩
        · have k2 : nu s.data.toList b = (false, b) := nu_1 (by rw [tk, if_neg h40])
          have HE := Lib.hid (hT.out.trans (hfu.trans (ro_nu hnend k1 (hbF b) (fun h => h40 h.1) k2)))
          have x40 : decide (s.data.toList[b]? = some 40) = false := decide_eq_false h40
          have K1 := Lib.hid k1
          have K2 := Lib.hid k2
          have HR := Lib.hid hr
          clear hr hfu hbF h40 k1 k2
          go_wp2_with fail
          go_quiet (fail)
          have hrq := HR.out.keep ((But.refl [] wr).drewN nq) (by simp)
          have hbq := hb.drewN nq
          have tok : True := trivial
          go_wp2_with (go_at_call 28; have _t := tok; clear tok; refine (take_ok (w0 := W) [32] (by decide) (by omega) hc hrq hbq K1.out).mono ?_; rintro e w1 ⟨rfl, hr1, hb1⟩)
          have tok : True := trivial
          go_wp2_with (go_at_call 32; have _t := tok; clear tok; refine (see_c 40 false hr1 hb1 x40).mono ?_; rintro e w2 ⟨rfl, hr2, hb2⟩; have hg2 := HG.keep hb2 (by simpa using hR))
          have tok : True := trivial
          go_wp2_with (go_at_call 29; have _t := tok; clear tok; refine (finite_no R b b s hs l1 hR _ hr2 hg2 K2.out).mono ?_; rintro e w3 ⟨he3, hb3⟩; subst he3; simp only [Fa])
          exact ⟨rfl, hb2.trans hb3, .inr ⟨b, 12, HE.out, rfl⟩⟩
      · have HE := Lib.hid (hT.out.trans (hfu.trans (ro_sp hnend k1)))
        have K1 := Lib.hid k1
        have HR := Lib.hid hr
        clear hr hfu hbF k1
        go_wp2_with fail
        go_quiet (fail)
        have hrq := HR.out.keep ((But.refl [] wr).drewN nq) (by simp)
        have hbq := hb.drewN nq
        go_wp2_with (go_at_call 28; refine (take_no (w0 := W) [32] (by decide) (by omega) hc hrq hbq K1.out).mono ?_; rintro e w1 ⟨he1, hb1⟩; subst he1; simp only [Fa])
        exact ⟨rfl, hb1, .inr ⟨b, 12, HE.out, rfl⟩⟩
    · have hend : (false = false ∧ ¬ c < s.data.toList.length) := by simp; omega
      have t1 : decide ((c : Int) < (s.size : Int)) = false := decide_eq_false (by omega)
      have HE := Lib.hid (hT.out.trans (show ro false s.data.toList (26 - l.length) c l.length = (true, c, 0) by rw [show 26 - l.length = (25 - l.length) + 1 by omega]; exact ro_end hend))
      have HR := Lib.hid hr
      clear hr
      go_wp2_with fail
      go_quiet (fail)
      have hrq := HR.out.keep ((But.refl [] wr).drewN nq) (by simp)
      have hbq := hb.drewN nq
      go_wp2_with fail
      go_ret
      exact ⟨hbq, .inl ⟨l, c, _, HE.out, rfl, hob.keep ((But.refl [] wr).drewN nq) (by simp), hrq, by simpa using hI.out, hl, hF.out⟩⟩
end Go.Proofs.YtnghppgpdeghfaaGreatDoor
namespace Go.Proofs.YtnghppgpdeghfaaGreatDoor
open Go.RowKit Go.Proofs.YtnghppgpdeghfaaGreatDoor.Fl Go.Proofs.YtnghppgpdeghfaaGreatDoor.Pt Go.Proofs.YtnghppgpdeghfaaGreatDoor.Tx

set_option linter.unusedSimpArgs false in
set_option maxRecDepth 100000 in
set_option maxHeartbeats 4000000 in
theorem roots_true (R a : Nat) (s : ByteArray) (hs : s.size ≤ 65536) (ha : a ≤ s.size) (hR : 15 ≤ R) (W : World) (h : Rdr W R s a) (hg : Gl W) : Calls Tryz.prog 30 #[.pointer (some ⟨R, 0, none⟩), .bool true] W (RoP R a true s W) := by
  have HG := hg
  have hRW : R < W.heap.size := (Array.getElem?_eq_some_iff.1 h).1
  go_enter Tryz.func30, Tryz.ntmps30
  go_wp2_with fail
  go_loopw [5] (fun v wr => ∃ (l : List (Nat × Nat)) (c : Nat), l.length ≤ 24 ∧ c ≤ s.size ∧ Rdr wr R s c ∧ OZ wr W.heap.size v l ∧ But [R] W wr ∧ Hid (ro true s.data.toList 26 a 0 = ro true s.data.toList (26 - l.length) c l.length) ∧ Hid (Is s.data.toList a (lsT l) c) ∧ Hid (∀ p ∈ l, p.1 < 18446744073709551616 ∧ p.2 < 18446744073709551616 ∧ finB p.1 p.2 = true)) (fun v _ => 30 - slen' v)
  case atStart => exact ⟨[], a, by simp, ha, h, World.ownsRow_nil W _ _ _, But.refl _ _, Lib.hid rfl, Lib.hid (Is.nil _ _), Lib.hid (by simp)⟩
  case round =>
    obtain ⟨l, c, hl, hc, hr, hob, hb, hT, hI, hF⟩ := hrel
    have hgr := HG.keep hb (by simpa using hR)
    obtain ⟨z0, z1, zz⟩ := hr.cells
    have hnend : ¬ (true = false ∧ ¬ c < s.data.toList.length) := by simp
    have OWNF : ∀ v w2 x, OZ wr W.heap.size v l → But [R] wr w2 → OZ (w2.setCell ⟨R, 1, none⟩ x) W.heap.size v l := fun v w2 x hob h => hob.keep (h.setCell ⟨R, 1, none⟩ x (.inl (by simp))) (fun g hg => by have := hob.block g hg; simp; omega)
    have hfu : ro true s.data.toList (26 - l.length) c l.length = ro true s.data.toList ((25 - l.length) + 1) c l.length := by rw [show 26 - l.length = (25 - l.length) + 1 by omega]
    rcases pair (x := tk s.data.toList [32] c) with ⟨b, k1⟩ | ⟨b, k1⟩
    · have l1 : b ≤ s.size := by have := tk_le k1 (by simpa using hc); simpa using this
      by_cases hbar : s.data.toList[b]? = some 124
      · have HE := Lib.hid (hT.out.trans (hfu.trans (ro_bar hnend k1 ⟨rfl, hbar⟩)))
        have x124 : decide (s.data.toList[b]? = some 124) = true := decide_eq_true hbar
        have X124 := Lib.hid x124
        have HB := Lib.hid hbar
        have l1' : b < s.size := by have := (List.getElem?_eq_some_iff.1 hbar).1; simpa using this
        have K1 := Lib.hid k1
        have HR := Lib.hid hr
        clear hr hfu hbar x124 k1
        go_wp2_with fail
        go_quiet (fail)
        have hrq := HR.out.keep ((But.refl [] wr).drewN nq) (by simp)
        have hbq := (But.refl [R] wr).drewN nq
        have tok : True := trivial
        go_wp2_with (go_at_call 28; have _t := tok; clear tok; refine (take_ok (w0 := wr) [32] (by decide) (by omega) hc hrq hbq K1.out).mono ?_; rintro e w1 ⟨rfl, hr1, hb1⟩)
        have tok : True := trivial
        go_wp2_with (go_at_call 32; have _t := tok; clear tok; refine (see_c 124 true hr1 hb1 X124.out).mono ?_; rintro e w2 ⟨rfl, hr2, hb2⟩; obtain ⟨y0, y1, yy⟩ := hr2.cells)
        go_ret
        have hrs : Rdr (w2.setCell ⟨R, 1, none⟩ (.int .i64 ((b : Int) + 1))) R s (b + 1) := Rdr.step hr2 (b + 1)
        exact ⟨hb.trans (hb2.setCell _ _ (.inl (by simp))), .inl ⟨l, b + 1, _, HE.out, rfl, OWNF _ _ _ hob hb2, hrs, hI.out.trans ((tk_is _ _ _ _ K1.out).trans (Is.one HB.out)), hl, hF.out⟩⟩
      have hbF : ¬ ((true : Bool) = true ∧ s.data.toList[b]? = some 124) := fun h => hbar h.2
      have X124 := Lib.hid (show decide (s.data.toList[b]? = some 124) = false from decide_eq_false hbar)
      clear hbar
      by_cases h40 : s.data.toList[b]? = some 40
      · rcases hob.form with ⟨rfl, hl0⟩ | ⟨g, cap, cur, rfl, hgB, hgc, hcap, _hc⟩
        · have hn : ¬ l.length = 24 := by rw [hl0]; simp
          rcases pair (x := nu s.data.toList b) with ⟨c2, k2⟩ | ⟨c2, k2⟩
          · have l2 : c2 ≤ s.size := by have := nu_le k2 (by simpa using l1); simpa using this
            by_cases hfn : FiN s.data.toList b c2
            · have HE := Lib.hid (hT.out.trans (hfu.trans (ro_next hnend k1 hbF (fun h => hn h.2) k2 hfn)))
              have HFN := Lib.hid hfn
              have x40 : decide (s.data.toList[b]? = some 40) = true := decide_eq_true h40
              have K1 := Lib.hid k1
              have K2 := Lib.hid k2
              clear k1 k2
              clear h40 hfn
              have HR := Lib.hid hr
              clear hr hfu hbF
              go_wp2_with fail
              go_quiet (fail)
              have hrq := HR.out.keep ((But.refl [] wr).drewN nq) (by simp)
              have hbq := (But.refl [R] wr).drewN nq
              have tok : True := trivial
              go_wp2_with (go_at_call 28; have _t := tok; clear tok; refine (take_ok (w0 := wr) [32] (by decide) (by omega) hc hrq hbq K1.out).mono ?_; rintro e w1 ⟨rfl, hr1, hb1⟩)
              have tok : True := trivial
              go_wp2_with (go_at_call 32; have _t := tok; clear tok; refine (see_c 124 false hr1 hb1 X124.out).mono ?_; rintro e w1b ⟨rfl, hr1b, hb1b⟩)
              have tok : True := trivial
              go_wp2_with (go_at_call 32; have _t := tok; clear tok; refine (see_c 40 true hr1b hb1b x40).mono ?_; rintro e w2 ⟨rfl, hr2, hb2⟩; have hg2 := hgr.keep hb2 (by simpa using hR); obtain ⟨y0, y1, yy⟩ := hr2.cells)
              have tok : True := trivial
              go_wp2_with (first | (go_at_call 29; have _t := tok; clear tok; refine (fi_ok hs l1 hR hr2 hg2 K2.out HFN.out).mono ?_; rintro e w3 ⟨x, y, rfl, hxy, hr3, hb3⟩; have HXY := Lib.hid hxy; have hob3 := hob.keep (hb2.trans hb3) (fun g' hg' => by cases hg'); have hbW := hb.trans (hb2.trans hb3); have hsz3 := hbW.size; clear hxy) | (at_builtin; refine wpList_append_oz rfl _ _ rfl W.heap.size (.slice none 0 0) l rfl (hob3.alloc _) ⟨w3.heap.size, 0, none⟩ 1 1 [(x, y)] rfl rfl (one_cplx w3 x y) (by omega) (by simp; omega) ?_; intro v' w' hob' hgr' hnn hown))
              go_roundw
              case rel =>
                have hbg : But [] w3 w' := ((But.refl [] w3).alloc _).grown hgr' (fun g' hg' => by cases hg')
                exact ⟨l ++ [(x, y)], c2, by rw [List.length_append, List.length_singleton]; omega, l2, hr3.keep hbg (by simp), hob', (hbW.alloc _).grown hgr' (fun g' hg' => by cases hg'), Lib.hid (by rw [List.length_append, List.length_singleton, show 26 - (l.length + 1) = 25 - l.length by omega]; exact HE.out), Lib.hid (by rw [lsT_snoc]; exact hI.out.trans ((tk_is _ _ _ _ K1.out).trans HXY.out.2.2.1)), Lib.hid (fun p hp => (List.mem_append.1 hp).elim (fun h => hF.out p h) (fun h => by rw [List.mem_singleton.1 h]; exact ⟨HXY.out.1, HXY.out.2.1, HXY.out.2.2.2⟩))⟩
              case measure =>
                rcases hob'.form with ⟨_, h⟩ | ⟨g', cap', cur', rfl, _⟩
                · exact absurd (congrArg List.length h) (by simp)
                · simp only [slen', List.length_append, List.length_singleton]; omega
            · have HE := Lib.hid (hT.out.trans (hfu.trans (ro_nan hnend k1 hbF (fun h => hn h.2) k2 hfn)))
              have HFN := Lib.hid hfn
              have x40 : decide (s.data.toList[b]? = some 40) = true := decide_eq_true h40
              have K1 := Lib.hid k1
              have K2 := Lib.hid k2
              clear k1 k2
              clear h40 hfn
              have HR := Lib.hid hr
              clear hr hfu hbF
              go_wp2_with fail
              go_quiet (fail)
              have hrq := HR.out.keep ((But.refl [] wr).drewN nq) (by simp)
              have hbq := (But.refl [R] wr).drewN nq
              have tok : True := trivial
              go_wp2_with (go_at_call 28; have _t := tok; clear tok; refine (take_ok (w0 := wr) [32] (by decide) (by omega) hc hrq hbq K1.out).mono ?_; rintro e w1 ⟨rfl, hr1, hb1⟩)
              have tok : True := trivial
              go_wp2_with (go_at_call 32; have _t := tok; clear tok; refine (see_c 124 false hr1 hb1 X124.out).mono ?_; rintro e w1b ⟨rfl, hr1b, hb1b⟩)
              have tok : True := trivial
              go_wp2_with (go_at_call 32; have _t := tok; clear tok; refine (see_c 40 true hr1b hb1b x40).mono ?_; rintro e w2 ⟨rfl, hr2, hb2⟩; have hg2 := hgr.keep hb2 (by simpa using hR); obtain ⟨y0, y1, yy⟩ := hr2.cells)
              have tok : True := trivial
              go_wp2_with (go_at_call 29; have _t := tok; clear tok; refine (fi_nan hs l1 hR hr2 hg2 K2.out HFN.out).mono ?_; rintro e w3 ⟨he3, hb3⟩; subst he3; simp only [Fa])
              exact ⟨rfl, hb.trans (hb2.trans hb3), .inr ⟨b, 5, HE.out, rfl⟩⟩
          · have HE := Lib.hid (hT.out.trans (hfu.trans (ro_nu hnend k1 hbF (fun h => hn h.2) k2)))
            have x40 : decide (s.data.toList[b]? = some 40) = true := decide_eq_true h40
            have K1 := Lib.hid k1
            have K2 := Lib.hid k2
            clear k1 k2
            clear h40
            have HR := Lib.hid hr
            clear hr hfu hbF
            go_wp2_with fail
            go_quiet (fail)
            have hrq := HR.out.keep ((But.refl [] wr).drewN nq) (by simp)
            have hbq := (But.refl [R] wr).drewN nq
            have tok : True := trivial
            go_wp2_with (go_at_call 28; have _t := tok; clear tok; refine (take_ok (w0 := wr) [32] (by decide) (by omega) hc hrq hbq K1.out).mono ?_; rintro e w1 ⟨rfl, hr1, hb1⟩)
            have tok : True := trivial
            go_wp2_with (go_at_call 32; have _t := tok; clear tok; refine (see_c 124 false hr1 hb1 X124.out).mono ?_; rintro e w1b ⟨rfl, hr1b, hb1b⟩)
            have tok : True := trivial
            go_wp2_with (go_at_call 32; have _t := tok; clear tok; refine (see_c 40 true hr1b hb1b x40).mono ?_; rintro e w2 ⟨rfl, hr2, hb2⟩; have hg2 := hgr.keep hb2 (by simpa using hR); obtain ⟨y0, y1, yy⟩ := hr2.cells)
            have tok : True := trivial
            go_wp2_with (go_at_call 29; have _t := tok; clear tok; refine (finite_no R b c2 s hs l1 hR _ hr2 hg2 K2.out).mono ?_; rintro e w3 ⟨he3, hb3⟩; subst he3; simp only [Fa])
            exact ⟨rfl, hb.trans (hb2.trans hb3), .inr ⟨c2, 12, HE.out, rfl⟩⟩
        · by_cases hn : l.length = 24
          · have HE := Lib.hid (hT.out.trans (hfu.trans (ro_full hnend k1 hbF ⟨h40, hn⟩)))
            have q24 : ((l.length : Int) == 24) = true := by simp; omega
            have x40 : decide (s.data.toList[b]? = some 40) = true := decide_eq_true h40
            have K1 := Lib.hid k1
            clear h40 k1
            have HR := Lib.hid hr
            clear hr hfu hbF
            go_wp2_with fail
            go_quiet (fail)
            have hrq := HR.out.keep ((But.refl [] wr).drewN nq) (by simp)
            have hbq := (But.refl [R] wr).drewN nq
            have tok : True := trivial
            go_wp2_with (go_at_call 28; have _t := tok; clear tok; refine (take_ok (w0 := wr) [32] (by decide) (by omega) hc hrq hbq K1.out).mono ?_; rintro e w1 ⟨rfl, hr1, hb1⟩)
            have tok : True := trivial
            go_wp2_with (go_at_call 32; have _t := tok; clear tok; refine (see_c 124 false hr1 hb1 X124.out).mono ?_; rintro e w1b ⟨rfl, hr1b, hb1b⟩)
            have tok : True := trivial
            go_wp2_with (go_at_call 32; have _t := tok; clear tok; refine (see_c 40 true hr1b hb1b x40).mono ?_; rintro e w2 ⟨rfl, hr2, hb2⟩; have hg2 := hgr.keep hb2 (by simpa using hR); obtain ⟨y0, y1, yy⟩ := hr2.cells)
            exact ⟨rfl, hb.trans hb2, .inr ⟨b, 2, HE.out, rfl⟩⟩
          · rcases pair (x := nu s.data.toList b) with ⟨c2, k2⟩ | ⟨c2, k2⟩
            · have l2 : c2 ≤ s.size := by have := nu_le k2 (by simpa using l1); simpa using this
              by_cases hfn : FiN s.data.toList b c2
              · have HE := Lib.hid (hT.out.trans (hfu.trans (ro_next hnend k1 hbF (fun h => hn h.2) k2 hfn)))
                have HFN := Lib.hid hfn
                have q24 : ((l.length : Int) == 24) = false := by simp; omega
                have x40 : decide (s.data.toList[b]? = some 40) = true := decide_eq_true h40
                have K1 := Lib.hid k1
                have K2 := Lib.hid k2
                clear k1 k2
                clear h40 hfn
                have HR := Lib.hid hr
                clear hr hfu hbF
                go_wp2_with fail
                go_quiet (fail)
                have hrq := HR.out.keep ((But.refl [] wr).drewN nq) (by simp)
                have hbq := (But.refl [R] wr).drewN nq
                have tok : True := trivial
                go_wp2_with (go_at_call 28; have _t := tok; clear tok; refine (take_ok (w0 := wr) [32] (by decide) (by omega) hc hrq hbq K1.out).mono ?_; rintro e w1 ⟨rfl, hr1, hb1⟩)
                have tok : True := trivial
                go_wp2_with (go_at_call 32; have _t := tok; clear tok; refine (see_c 124 false hr1 hb1 X124.out).mono ?_; rintro e w1b ⟨rfl, hr1b, hb1b⟩)
                have tok : True := trivial
                go_wp2_with (go_at_call 32; have _t := tok; clear tok; refine (see_c 40 true hr1b hb1b x40).mono ?_; rintro e w2 ⟨rfl, hr2, hb2⟩; have hg2 := hgr.keep hb2 (by simpa using hR); obtain ⟨y0, y1, yy⟩ := hr2.cells)
                have tok : True := trivial
                go_wp2_with (first | (go_at_call 29; have _t := tok; clear tok; refine (fi_ok hs l1 hR hr2 hg2 K2.out HFN.out).mono ?_; rintro e w3 ⟨x, y, rfl, hxy, hr3, hb3⟩; have HXY := Lib.hid hxy; have hob3 := hob.keep (hb2.trans hb3) (fun g' hg' => by cases hg'; simp; omega); have hbW := hb.trans (hb2.trans hb3); have hsz3 := hbW.size; clear hxy) | (at_builtin; refine wpList_append_oz rfl _ _ rfl W.heap.size (.slice (some ⟨g, 0, none⟩) l.length cap) l rfl (hob3.alloc _) ⟨w3.heap.size, 0, none⟩ 1 1 [(x, y)] rfl rfl (one_cplx w3 x y) (by omega) (by simp; omega) ?_; intro v' w' hob' hgr' hnn hown))
                go_roundw
                case rel =>
                  have hbg : But [g] w3 w' := ((But.refl [g] w3).alloc _).grown hgr' (fun g' hg' => by cases hg'; exact .inl (by simp))
                  exact ⟨l ++ [(x, y)], c2, by rw [List.length_append, List.length_singleton]; omega, l2, hr3.keep hbg (by simp; omega), hob', (hbW.alloc _).grown hgr' (fun g' hg' => by cases hg'; exact .inr hgB), Lib.hid (by rw [List.length_append, List.length_singleton, show 26 - (l.length + 1) = 25 - l.length by omega]; exact HE.out), Lib.hid (by rw [lsT_snoc]; exact hI.out.trans ((tk_is _ _ _ _ K1.out).trans HXY.out.2.2.1)), Lib.hid (fun p hp => (List.mem_append.1 hp).elim (fun h => hF.out p h) (fun h => by rw [List.mem_singleton.1 h]; exact ⟨HXY.out.1, HXY.out.2.1, HXY.out.2.2.2⟩))⟩
                case measure =>
                  rcases hob'.form with ⟨_, h⟩ | ⟨g', cap', cur', rfl, _⟩
                  · exact absurd (congrArg List.length h) (by simp)
                  · simp only [slen', List.length_append, List.length_singleton]; omega
              · have HE := Lib.hid (hT.out.trans (hfu.trans (ro_nan hnend k1 hbF (fun h => hn h.2) k2 hfn)))
                have HFN := Lib.hid hfn
                have q24 : ((l.length : Int) == 24) = false := by simp; omega
                have x40 : decide (s.data.toList[b]? = some 40) = true := decide_eq_true h40
                have K1 := Lib.hid k1
                have K2 := Lib.hid k2
                clear k1 k2
                clear h40 hfn
                have HR := Lib.hid hr
                clear hr hfu hbF
                go_wp2_with fail
                go_quiet (fail)
                have hrq := HR.out.keep ((But.refl [] wr).drewN nq) (by simp)
                have hbq := (But.refl [R] wr).drewN nq
                have tok : True := trivial
                go_wp2_with (go_at_call 28; have _t := tok; clear tok; refine (take_ok (w0 := wr) [32] (by decide) (by omega) hc hrq hbq K1.out).mono ?_; rintro e w1 ⟨rfl, hr1, hb1⟩)
                have tok : True := trivial
                go_wp2_with (go_at_call 32; have _t := tok; clear tok; refine (see_c 124 false hr1 hb1 X124.out).mono ?_; rintro e w1b ⟨rfl, hr1b, hb1b⟩)
                have tok : True := trivial
                go_wp2_with (go_at_call 32; have _t := tok; clear tok; refine (see_c 40 true hr1b hb1b x40).mono ?_; rintro e w2 ⟨rfl, hr2, hb2⟩; have hg2 := hgr.keep hb2 (by simpa using hR); obtain ⟨y0, y1, yy⟩ := hr2.cells)
                have tok : True := trivial
                go_wp2_with (go_at_call 29; have _t := tok; clear tok; refine (fi_nan hs l1 hR hr2 hg2 K2.out HFN.out).mono ?_; rintro e w3 ⟨he3, hb3⟩; subst he3; simp only [Fa])
                exact ⟨rfl, hb.trans (hb2.trans hb3), .inr ⟨b, 5, HE.out, rfl⟩⟩
            · have HE := Lib.hid (hT.out.trans (hfu.trans (ro_nu hnend k1 hbF (fun h => hn h.2) k2)))
              have q24 : ((l.length : Int) == 24) = false := by simp; omega
              have x40 : decide (s.data.toList[b]? = some 40) = true := decide_eq_true h40
              have K1 := Lib.hid k1
              have K2 := Lib.hid k2
              clear k1 k2
              clear h40
              have HR := Lib.hid hr
              clear hr hfu hbF
              go_wp2_with fail
              go_quiet (fail)
              have hrq := HR.out.keep ((But.refl [] wr).drewN nq) (by simp)
              have hbq := (But.refl [R] wr).drewN nq
              have tok : True := trivial
              go_wp2_with (go_at_call 28; have _t := tok; clear tok; refine (take_ok (w0 := wr) [32] (by decide) (by omega) hc hrq hbq K1.out).mono ?_; rintro e w1 ⟨rfl, hr1, hb1⟩)
              have tok : True := trivial
              go_wp2_with (go_at_call 32; have _t := tok; clear tok; refine (see_c 124 false hr1 hb1 X124.out).mono ?_; rintro e w1b ⟨rfl, hr1b, hb1b⟩)
              have tok : True := trivial
              go_wp2_with (go_at_call 32; have _t := tok; clear tok; refine (see_c 40 true hr1b hb1b x40).mono ?_; rintro e w2 ⟨rfl, hr2, hb2⟩; have hg2 := hgr.keep hb2 (by simpa using hR); obtain ⟨y0, y1, yy⟩ := hr2.cells)
              have tok : True := trivial
              go_wp2_with (go_at_call 29; have _t := tok; clear tok; refine (finite_no R b c2 s hs l1 hR _ hr2 hg2 K2.out).mono ?_; rintro e w3 ⟨he3, hb3⟩; subst he3; simp only [Fa])
              exact ⟨rfl, hb.trans (hb2.trans hb3), .inr ⟨c2, 12, HE.out, rfl⟩⟩
      · have k2 : nu s.data.toList b = (false, b) := nu_1 (by rw [tk, if_neg h40])
        have HE := Lib.hid (hT.out.trans (hfu.trans (ro_nu hnend k1 hbF (fun h => h40 h.1) k2)))
        have x40 : decide (s.data.toList[b]? = some 40) = false := decide_eq_false h40
        have K1 := Lib.hid k1
        have K2 := Lib.hid k2
        have HR := Lib.hid hr
        clear hr hfu hbF h40 k1 k2
        go_wp2_with fail
        go_quiet (fail)
        have hrq := HR.out.keep ((But.refl [] wr).drewN nq) (by simp)
        have hbq := hb.drewN nq
        have tok : True := trivial
        go_wp2_with (go_at_call 28; have _t := tok; clear tok; refine (take_ok (w0 := W) [32] (by decide) (by omega) hc hrq hbq K1.out).mono ?_; rintro e w1 ⟨rfl, hr1, hb1⟩)
        have tok : True := trivial
        go_wp2_with (go_at_call 32; have _t := tok; clear tok; refine (see_c 124 false hr1 hb1 X124.out).mono ?_; rintro e w1b ⟨rfl, hr1b, hb1b⟩)
        have tok : True := trivial
        go_wp2_with (go_at_call 32; have _t := tok; clear tok; refine (see_c 40 false hr1b hb1b x40).mono ?_; rintro e w2 ⟨rfl, hr2, hb2⟩; have hg2 := HG.keep hb2 (by simpa using hR))
        have tok : True := trivial
        go_wp2_with (go_at_call 29; have _t := tok; clear tok; refine (finite_no R b b s hs l1 hR _ hr2 hg2 K2.out).mono ?_; rintro e w3 ⟨he3, hb3⟩; subst he3; simp only [Fa])
        exact ⟨rfl, hb2.trans hb3, .inr ⟨b, 12, HE.out, rfl⟩⟩
    · have HE := Lib.hid (hT.out.trans (hfu.trans (ro_sp hnend k1)))
      have K1 := Lib.hid k1
      have HR := Lib.hid hr
      clear hr hfu k1
      go_wp2_with fail
      go_quiet (fail)
      have hrq := HR.out.keep ((But.refl [] wr).drewN nq) (by simp)
      have hbq := hb.drewN nq
      go_wp2_with (go_at_call 28; refine (take_no (w0 := W) [32] (by decide) (by omega) hc hrq hbq K1.out).mono ?_; rintro e w1 ⟨he1, hb1⟩; subst he1; simp only [Fa])
      exact ⟨rfl, hb1, .inr ⟨b, 12, HE.out, rfl⟩⟩
end Go.Proofs.YtnghppgpdeghfaaGreatDoor
namespace Go.Proofs.YtnghppgpdeghfaaGreatDoor
open Go.RowKit Go.Proofs.YtnghppgpdeghfaaGreatDoor.Fl Go.Proofs.YtnghppgpdeghfaaGreatDoor.Pt Go.Proofs.YtnghppgpdeghfaaGreatDoor.Tx

theorem fl_no_close (z : Nat) : (41 : UInt8) ∉ fl z := by
  intro hm
  have key : ∀ c : UInt8, isH c = true ∨ isD c = true → c ≠ 41 := by
    intro c h e; rw [e] at h; revert h; decide
  unfold fl at hm
  split at hm
  · revert hm; decide
  · split at hm
    · split at hm <;> (revert hm; decide)
    · rcases List.mem_append.1 hm with h | h
      · split at h <;> (revert h; decide)
      · rcases List.mem_append.1 h with h | h
        · revert h; decide
        · rcases List.mem_append.1 h with h | h
          · exact key _ (.inl (hexD_isH _ _ h)) rfl
          · rcases List.mem_cons.1 h with h | h
            · revert h; decide
            · unfold Lib.itoa at h
              split at h
              · rcases List.mem_cons.1 h with h | h
                · revert h; decide
                · exact key _ (.inr (dd_isD _ _ h)) rfl
              · exact key _ (.inr (dd_isD _ _ h)) rfl
/-- A number of 64 bits a part. -/
def Wf (p : Nat × Nat) : Prop := p.1 < 18446744073709551616 ∧ p.2 < 18446744073709551616
def eqC (p q : Nat × Nat) : Prop := eqv p.1 q.1 = true ∧ eqv p.2 q.2 = true
/-- Numbers' texts with something behind them. -/
theorem num_cut {p q : Nat × Nat} {A B : List UInt8} (hp : Wf p) (hq : Wf q) (h : num p.1 p.2 ++ A = num q.1 q.2 ++ B) : eqC p q ∧ A = B := by
  unfold num at h
  simp only [List.append_assoc, List.cons_append, List.nil_append, List.cons.injEq, true_and] at h
  obtain ⟨e1, e2⟩ := split_at 44 (fl p.1) (fl q.1) _ _ (fl_no_comma p.1 hp.1) (fl_no_comma q.1 hq.1) h
  obtain ⟨e3, e4⟩ := split_at 41 (fl p.2) (fl q.2) _ _ (fl_no_close _) (fl_no_close _) e2
  exact ⟨⟨fl_inj hp.1 hq.1 e1, fl_inj hp.2 hq.2 e3⟩, e4⟩
/-- Lists that are alike, number by number. -/
def eqL : List (Nat × Nat) → List (Nat × Nat) → Prop
  | [], [] => True
  | p :: l, q :: m => eqC p q ∧ eqL l m
  | _, _ => False
theorem eqL.len : ∀ {l m : List (Nat × Nat)}, eqL l m → l.length = m.length
  | [], [], _ => rfl
  | p :: l, q :: m, h => by simp [eqL.len h.2]
  | [], q :: m, h => h.elim
  | p :: l, [], h => h.elim
theorem eqL.at : ∀ {l m : List (Nat × Nat)}, eqL l m → ∀ (i : Nat) (p q : Nat × Nat), l[i]? = some p → m[i]? = some q → eqC p q
  | [], [], _, i, p, q, h1, _ => by simp at h1
  | a :: l, b :: m, h, 0, p, q, h1, h2 => by simp at h1 h2; subst h1; subst h2; exact h.1
  | a :: l, b :: m, h, i + 1, p, q, h1, h2 => eqL.at h.2 i p q (by simpa using h1) (by simpa using h2)
  | [], q :: m, h, _, _, _, _, _ => h.elim
  | p :: l, [], h, _, _, _, _, _ => h.elim
theorem lsT_inj : ∀ (l m : List (Nat × Nat)), (∀ p ∈ l, Wf p) → (∀ p ∈ m, Wf p) → lsT l = lsT m → eqL l m
  | [], [], _, _, _ => trivial
  | [], q :: m, _, _, h => by simp [lsT] at h
  | p :: l, [], _, _, h => by simp [lsT] at h
  | p :: l, q :: m, hl, hm, h => by
    have h1 : 32 :: (num p.1 p.2 ++ lsT l) = 32 :: (num q.1 q.2 ++ lsT m) := by simpa [lsT] using h
    obtain ⟨e1, e2⟩ := num_cut (hl p (by simp)) (hm q (by simp)) (List.cons.inj h1).2
    exact ⟨e1, lsT_inj l m (fun x hx => hl x (by simp [hx])) (fun x hx => hm x (by simp [hx])) e2⟩
/-- .. of the same length, with something behind them. -/
theorem lsT_cut : ∀ (l m : List (Nat × Nat)) (A B : List UInt8), l.length = m.length → (∀ p ∈ l, Wf p) → (∀ p ∈ m, Wf p) → lsT l ++ A = lsT m ++ B → eqL l m ∧ A = B
  | [], [], A, B, _, _, _, h => ⟨trivial, by simpa [lsT] using h⟩
  | [], q :: m, _, _, hn, _, _, _ => by simp at hn
  | p :: l, [], _, _, hn, _, _, _ => by simp at hn
  | p :: l, q :: m, A, B, hn, hl, hm, h => by
    have h1 : 32 :: (num p.1 p.2 ++ (lsT l ++ A)) = 32 :: (num q.1 q.2 ++ (lsT m ++ B)) := by simpa [lsT] using h
    obtain ⟨e1, e2⟩ := num_cut (hl p (by simp)) (hm q (by simp)) (List.cons.inj h1).2
    obtain ⟨e3, e4⟩ := lsT_cut l m A B (by simpa using hn) (fun x hx => hl x (by simp [hx])) (fun x hx => hm x (by simp [hx])) e2
    exact ⟨⟨e1, e3⟩, e4⟩
theorem lsT_append (l m : List (Nat × Nat)) : lsT (l ++ m) = lsT l ++ lsT m := by simp [lsT]
end Go.Proofs.YtnghppgpdeghfaaGreatDoor
