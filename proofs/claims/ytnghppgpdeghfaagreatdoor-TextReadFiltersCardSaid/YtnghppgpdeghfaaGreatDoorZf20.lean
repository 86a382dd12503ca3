/- The reference's all. -/
import Derived.Test.YtnghppgpdeghfaaGreatDoorZf18
namespace Go.Proofs.YtnghppgpdeghfaaGreatDoor
open Go.RowKit Go.Proofs.YtnghppgpdeghfaaGreatDoor.Fl Go.Proofs.YtnghppgpdeghfaaGreatDoor.Pt Go.Proofs.YtnghppgpdeghfaaGreatDoor.Tx

/-- What all answers. -/
def AlP (Q a : Nat) (bar : Bool) (s : ByteArray) (W : World) (e : Ending) (w' : World) : Prop := But [Q] W w' ∧
  ((∃ l c v, ro bar s.data.toList 26 a 0 = (true, c, 0) ∧ e = .returned v ∧ OZ w' W.heap.size v l ∧ Rr w' Q s c 0 0 ∧ Is s.data.toList a (lsT l ++ (if bar then [32, 124] else [])) c ∧ l.length ≤ 24 ∧ (∀ p ∈ l, p.1 < 18446744073709551616 ∧ p.2 < 18446744073709551616 ∧ finB p.1 p.2 = true)) ∨
   (∃ b f v d, ro bar s.data.toList 26 a 0 = (false, b, f) ∧ e = .returned v ∧ (f = 12 ∨ f = 2 ∨ f = 5) ∧ Rr w' Q s d f b ∧ ∃ l, OZ w' W.heap.size v l))
set_option linter.unusedSimpArgs false in
set_option maxRecDepth 100000 in
set_option maxHeartbeats 4000000 in
theorem all_false (Q a : Nat) (s : ByteArray) (hs : s.size ≤ 65536) (ha : a ≤ s.size) (W : World) (h : Rr W Q s a 0 0) : Calls Tryz.prog 35 #[.pointer (some ⟨Q, 0, none⟩), .bool false] W (AlP Q a false s W) := by
  have hQW : Q < W.heap.size := (Array.getElem?_eq_some_iff.1 h).1
  go_enter Tryz.func35, Tryz.ntmps35
  go_wp2_with fail
  go_loopw [5] (fun v wr => ∃ (l : List (Nat × Nat)), OZ wr W.heap.size v l ∧ l.length ≤ 25 ∧ But [Q] W wr ∧ ((∃ c : Nat, l.length ≤ 24 ∧ c ≤ s.size ∧ Rr wr Q s c 0 0 ∧ Hid (ro false s.data.toList 26 a 0 = ro false s.data.toList (26 - l.length) c l.length) ∧ Hid (Is s.data.toList a (lsT l) c) ∧ Hid (∀ p ∈ l, p.1 < 18446744073709551616 ∧ p.2 < 18446744073709551616 ∧ finB p.1 p.2 = true)) ∨ (∃ b f d : Nat, (f = 12 ∨ f = 2 ∨ f = 5) ∧ Rr wr Q s d f b ∧ Hid (ro false s.data.toList 26 a 0 = (false, b, f))))) (fun v _ => 30 - slen' v)
  case atStart => exact ⟨[], World.ownsRow_nil W _ _ _, by simp, But.refl _ _, .inl ⟨a, by simp, ha, h, Lib.hid rfl, Lib.hid (Is.nil _ _), Lib.hid (by simp)⟩⟩
  case round =>
    obtain ⟨l, hob, hl25, hb, ⟨c, hl, hc, hr, hT, hI, hF⟩ | ⟨b, f, d, hf, hr, hE⟩⟩ := hrel
    · obtain ⟨z0, z1, z2, z3, zf⟩ := hr.cells
      clear zf
      by_cases he : c < s.size
      · have hnend : ¬ (false = false ∧ ¬ c < s.data.toList.length) := by simp; omega
        have t1 : decide ((c : Int) < (s.size : Int)) = true := decide_eq_true (by omega)
        have hfu : ro false s.data.toList (26 - l.length) c l.length = ro false s.data.toList ((25 - l.length) + 1) c l.length := by rw [show 26 - l.length = (25 - l.length) + 1 by omega]
        rcases pair (x := tk s.data.toList [32] c) with ⟨b, k1⟩ | ⟨b, k1⟩
        · have l1 : b ≤ s.size := by have := tk_le k1 (by simpa using hc); simpa using this
          have hbF : ¬ ((false : Bool) = true ∧ s.data.toList[b]? = some 124) := fun h => by cases h.1
          by_cases h40 : s.data.toList[b]? = some 40
          · rcases hob.form with ⟨rfl, hl0⟩ | ⟨g, cap, cur, rfl, hgB, hgc, hcap, _hc⟩
            · have hll : l.length = 0 := by rw [hl0]; rfl
              have hn40 : ¬ (s.data.toList[b]? = some 40 ∧ l.length = 24) := fun h => by rw [hl0] at h; simp at h
              have HN := Lib.hid (show ∀ c2, nu s.data.toList b = (true, c2) → FiN s.data.toList b c2 → ro false s.data.toList 26 a 0 = ro false s.data.toList (25 - l.length) c2 (l.length + 1) from fun c2 k2 hf => hT.out.trans (hfu.trans (ro_next hnend k1 hbF hn40 k2 hf)))
              have HA := Lib.hid (show ∀ c2, nu s.data.toList b = (true, c2) → ¬ FiN s.data.toList b c2 → ro false s.data.toList 26 a 0 = (false, b, 5) from fun c2 k2 hf => hT.out.trans (hfu.trans (ro_nan hnend k1 hbF hn40 k2 hf)))
              have HB := Lib.hid (show ∀ c2, nu s.data.toList b = (false, c2) → ro false s.data.toList 26 a 0 = (false, c2, 12) from fun c2 k2 => hT.out.trans (hfu.trans (ro_nu hnend k1 hbF hn40 k2)))
              have x40 := Lib.hid (show decide (s.data.toList[b]? = some 40) = true from decide_eq_true h40)
              have K1 := Lib.hid k1
              have HR := Lib.hid hr
              clear h40 k1 hr hfu hbF hn40
              go_wp2_with fail
              go_quiet (fail)
              have hrq := HR.out.keep ((But.refl [] wr).drewN nq) (by simp)
              have hbq := (But.refl [Q] wr).drewN nq
              have tok : True := trivial
              go_wp2_with (go_at_call 34; have _t := tok; clear tok; refine (wt_ok (w0 := wr) [32] (by decide) hs hc hrq hbq K1.out).mono ?_; rintro e w1 ⟨rfl, hr1, hb1⟩)
              have tok : True := trivial
              go_wp2_with (go_at_call 42; have _t := tok; clear tok; refine (is_c 40 true hr1 hb1 x40.out).mono ?_; rintro e w2 ⟨rfl, hr2, hb2⟩)
              have tok : True := trivial
              go_wp2_with (first | (go_at_call 23; have _t := tok; clear tok; refine (nt_any Q b s hs l1 _ hr2).mono ?_; rintro e w3 ⟨hbb, x, y, rfl, hx, hy, hway⟩; have HW := Lib.hid hway; clear hway; have hb3 := hb2.trans hbb; have hob3 := hob.keep hb3 (fun g' hg' => by cases hg'); have hbW := hb.trans hb3; have hsz3 := hbW.size) | (at_builtin; refine wpList_append_oz rfl _ _ rfl W.heap.size (.slice none 0 0) l rfl (hob3.alloc _) ⟨w3.heap.size, 0, none⟩ 1 1 [(x, y)] rfl rfl (one_cplx w3 _ _) (by omega) (by simp; omega) ?_; intro v' w' hob' hgr' hnn hown))
              go_roundw
              case rel =>
                have hbg : But [] w3 w' := ((But.refl [] w3).alloc _).grown hgr' (fun g' hg' => by cases hg')
                have hKR : ∀ c f p, Rr w3 Q s c f p → Rr w' Q s c f p := fun c f p h => h.keep hbg (by simp)
                have hBW : But [Q] W w' := (hbW.alloc _).grown hgr' (fun g' hg' => by cases hg')
                rcases HW.out with ⟨c2, k2, hr3, hi, hf⟩ | ⟨c2, k2, hf, hr3⟩ | ⟨c2, d, k2, hr3⟩
                · have l2 : c2 ≤ s.size := by have := nu_le k2 (by simpa using l1); simpa using this
                  exact ⟨l ++ [(x, y)], hob', (by rw [List.length_append, List.length_singleton]; omega), hBW, .inl ⟨c2, by rw [List.length_append, List.length_singleton]; omega, l2, hKR _ _ _ hr3, Lib.hid (by rw [List.length_append, List.length_singleton, show 26 - (l.length + 1) = 25 - l.length by omega]; exact HN.out c2 k2 ⟨x, y, hx, hy, hi, hf⟩), Lib.hid (by rw [lsT_snoc]; exact hI.out.trans ((tk_is _ _ _ _ K1.out).trans hi)), Lib.hid (fun p hp => (List.mem_append.1 hp).elim (fun h => hF.out p h) (fun h => by rw [List.mem_singleton.1 h]; exact ⟨hx, hy, hf⟩))⟩⟩
                · exact ⟨l ++ [(x, y)], hob', (by rw [List.length_append, List.length_singleton]; omega), hBW, .inr ⟨b, 5, c2, .inr (.inr rfl), hKR _ _ _ hr3, Lib.hid (HA.out c2 k2 hf)⟩⟩
                · exact ⟨l ++ [(x, y)], hob', (by rw [List.length_append, List.length_singleton]; omega), hBW, .inr ⟨c2, 12, d, .inl rfl, hKR _ _ _ hr3, Lib.hid (HB.out c2 k2)⟩⟩
              case measure =>
                rcases hob'.form with ⟨_, h⟩ | ⟨g', cap', cur', rfl, _⟩
                · exact absurd (congrArg List.length h) (by simp)
                · simp only [slen', List.length_append, List.length_singleton]; omega
            · by_cases hn : l.length = 24
              · have HE := Lib.hid (hT.out.trans (hfu.trans (ro_full hnend k1 hbF ⟨h40, hn⟩)))
                have q24 : ((l.length : Int) == 24) = true := by simp; omega
                have x40 := Lib.hid (show decide (s.data.toList[b]? = some 40) = true from decide_eq_true h40)
                have K1 := Lib.hid k1
                have HR := Lib.hid hr
                clear h40 k1 hr hfu hbF hn
                go_wp2_with fail
                go_quiet (fail)
                have hrq := HR.out.keep ((But.refl [] wr).drewN nq) (by simp)
                have hbq := (But.refl [Q] wr).drewN nq
                have tok : True := trivial
                go_wp2_with (go_at_call 34; have _t := tok; clear tok; refine (wt_ok (w0 := wr) [32] (by decide) hs hc hrq hbq K1.out).mono ?_; rintro e w1 ⟨rfl, hr1, hb1⟩)
                have tok : True := trivial
                go_wp2_with (go_at_call 42; have _t := tok; clear tok; refine (is_c 40 true hr1 hb1 x40.out).mono ?_; rintro e w2 ⟨rfl, hr2, hb2⟩; obtain ⟨y0, y1, y2, y3, yf⟩ := hr2.cells; clear yf)
                have tok : True := trivial
                go_wp2_with (go_at_call 43; have _t := tok; clear tok; refine (fa_on 2 b hr2 hb2).mono ?_; rintro e w2f ⟨rfl, hr2f, hb2f⟩)
                have tok : True := trivial
                go_wp2_with (first | (go_at_call 23; have _t := tok; clear tok; refine (nt_g Q b b 2 rfl rfl true s _ hr2f).mono ?_; rintro e w3 ⟨rfl, hr3, hbb⟩; have hb3 := hb2f.trans hbb; have hob3 := hob.keep hb3 (fun g' hg' => by cases hg'; simp; omega); have hbW := hb.trans hb3; have hsz3 := hbW.size) | (at_builtin; refine wpList_append_oz rfl _ _ rfl W.heap.size (.slice (some ⟨g, 0, none⟩) l.length cap) l rfl (hob3.alloc _) ⟨w3.heap.size, 0, none⟩ 1 1 [(0, 0)] rfl rfl (one_cplx w3 _ _) (by omega) (by simp; omega) ?_; intro v' w' hob' hgr' hnn hown))
                go_roundw
                case rel =>
                  have hbg : But [g] w3 w' := ((But.refl [g] w3).alloc _).grown hgr' (fun g' hg' => by cases hg'; exact .inl (by simp))
                  have hKR : ∀ c f p, Rr w3 Q s c f p → Rr w' Q s c f p := fun c f p h => h.keep hbg (by simp; omega)
                  have hBW : But [Q] W w' := (hbW.alloc _).grown hgr' (fun g' hg' => by cases hg'; exact .inr hgB)
                  exact ⟨l ++ [(0, 0)], hob', (by rw [List.length_append, List.length_singleton]; omega), hBW, .inr ⟨b, 2, b, .inr (.inl rfl), hKR _ _ _ hr3, HE⟩⟩
                case measure =>
                  rcases hob'.form with ⟨_, h⟩ | ⟨g', cap', cur', rfl, _⟩
                  · exact absurd (congrArg List.length h) (by simp)
                  · simp only [slen', List.length_append, List.length_singleton]; omega
              · have hn40 : ¬ (s.data.toList[b]? = some 40 ∧ l.length = 24) := fun h => hn h.2
                have HN := Lib.hid (show ∀ c2, nu s.data.toList b = (true, c2) → FiN s.data.toList b c2 → ro false s.data.toList 26 a 0 = ro false s.data.toList (25 - l.length) c2 (l.length + 1) from fun c2 k2 hf => hT.out.trans (hfu.trans (ro_next hnend k1 hbF hn40 k2 hf)))
                have HA := Lib.hid (show ∀ c2, nu s.data.toList b = (true, c2) → ¬ FiN s.data.toList b c2 → ro false s.data.toList 26 a 0 = (false, b, 5) from fun c2 k2 hf => hT.out.trans (hfu.trans (ro_nan hnend k1 hbF hn40 k2 hf)))
                have HB := Lib.hid (show ∀ c2, nu s.data.toList b = (false, c2) → ro false s.data.toList 26 a 0 = (false, c2, 12) from fun c2 k2 => hT.out.trans (hfu.trans (ro_nu hnend k1 hbF hn40 k2)))
                have q24 : ((l.length : Int) == 24) = false := by simp; omega
                have x40 := Lib.hid (show decide (s.data.toList[b]? = some 40) = true from decide_eq_true h40)
                have K1 := Lib.hid k1
                have HR := Lib.hid hr
                clear h40 k1 hr hfu hbF hn40
                go_wp2_with fail
                go_quiet (fail)
                have hrq := HR.out.keep ((But.refl [] wr).drewN nq) (by simp)
                have hbq := (But.refl [Q] wr).drewN nq
                have tok : True := trivial
                go_wp2_with (go_at_call 34; have _t := tok; clear tok; refine (wt_ok (w0 := wr) [32] (by decide) hs hc hrq hbq K1.out).mono ?_; rintro e w1 ⟨rfl, hr1, hb1⟩)
                have tok : True := trivial
                go_wp2_with (go_at_call 42; have _t := tok; clear tok; refine (is_c 40 true hr1 hb1 x40.out).mono ?_; rintro e w2 ⟨rfl, hr2, hb2⟩)
                have tok : True := trivial
                go_wp2_with (first | (go_at_call 23; have _t := tok; clear tok; refine (nt_any Q b s hs l1 _ hr2).mono ?_; rintro e w3 ⟨hbb, x, y, rfl, hx, hy, hway⟩; have HW := Lib.hid hway; clear hway; have hb3 := hb2.trans hbb; have hob3 := hob.keep hb3 (fun g' hg' => by cases hg'; simp; omega); have hbW := hb.trans hb3; have hsz3 := hbW.size) | (at_builtin; refine wpList_append_oz rfl _ _ rfl W.heap.size (.slice (some ⟨g, 0, none⟩) l.length cap) l rfl (hob3.alloc _) ⟨w3.heap.size, 0, none⟩ 1 1 [(x, y)] rfl rfl (one_cplx w3 _ _) (by omega) (by simp; omega) ?_; intro v' w' hob' hgr' hnn hown))
                go_roundw
                case rel =>
                  have hbg : But [g] w3 w' := ((But.refl [g] w3).alloc _).grown hgr' (fun g' hg' => by cases hg'; exact .inl (by simp))
                  have hKR : ∀ c f p, Rr w3 Q s c f p → Rr w' Q s c f p := fun c f p h => h.keep hbg (by simp; omega)
                  have hBW : But [Q] W w' := (hbW.alloc _).grown hgr' (fun g' hg' => by cases hg'; exact .inr hgB)
                  rcases HW.out with ⟨c2, k2, hr3, hi, hf⟩ | ⟨c2, k2, hf, hr3⟩ | ⟨c2, d, k2, hr3⟩
                  · have l2 : c2 ≤ s.size := by have := nu_le k2 (by simpa using l1); simpa using this
                    exact ⟨l ++ [(x, y)], hob', (by rw [List.length_append, List.length_singleton]; omega), hBW, .inl ⟨c2, by rw [List.length_append, List.length_singleton]; omega, l2, hKR _ _ _ hr3, Lib.hid (by rw [List.length_append, List.length_singleton, show 26 - (l.length + 1) = 25 - l.length by omega]; exact HN.out c2 k2 ⟨x, y, hx, hy, hi, hf⟩), Lib.hid (by rw [lsT_snoc]; exact hI.out.trans ((tk_is _ _ _ _ K1.out).trans hi)), Lib.hid (fun p hp => (List.mem_append.1 hp).elim (fun h => hF.out p h) (fun h => by rw [List.mem_singleton.1 h]; exact ⟨hx, hy, hf⟩))⟩⟩
                  · exact ⟨l ++ [(x, y)], hob', (by rw [List.length_append, List.length_singleton]; omega), hBW, .inr ⟨b, 5, c2, .inr (.inr rfl), hKR _ _ _ hr3, Lib.hid (HA.out c2 k2 hf)⟩⟩
                  · exact ⟨l ++ [(x, y)], hob', (by rw [List.length_append, List.length_singleton]; omega), hBW, .inr ⟨c2, 12, d, .inl rfl, hKR _ _ _ hr3, Lib.hid (HB.out c2 k2)⟩⟩
                case measure =>
                  rcases hob'.form with ⟨_, h⟩ | ⟨g', cap', cur', rfl, _⟩
                  · exact absurd (congrArg List.length h) (by simp)
                  · simp only [slen', List.length_append, List.length_singleton]; omega
          · have hn40 : ¬ (s.data.toList[b]? = some 40 ∧ l.length = 24) := fun h => h40 h.1
            rcases hob.form with ⟨rfl, hl0⟩ | ⟨g, cap, cur, rfl, hgB, hgc, hcap, _hc⟩
            · have hll : l.length = 0 := by rw [hl0]; rfl
              have k2 : nu s.data.toList b = (false, b) := nu_1 (by rw [tk, if_neg h40])
              have HK := Lib.hid k2
              have HN := Lib.hid (show ∀ c2, nu s.data.toList b = (true, c2) → FiN s.data.toList b c2 → ro false s.data.toList 26 a 0 = ro false s.data.toList (25 - l.length) c2 (l.length + 1) from fun c2 k2 hf => hT.out.trans (hfu.trans (ro_next hnend k1 hbF hn40 k2 hf)))
              have HA := Lib.hid (show ∀ c2, nu s.data.toList b = (true, c2) → ¬ FiN s.data.toList b c2 → ro false s.data.toList 26 a 0 = (false, b, 5) from fun c2 k2 hf => hT.out.trans (hfu.trans (ro_nan hnend k1 hbF hn40 k2 hf)))
              have HB := Lib.hid (show ∀ c2, nu s.data.toList b = (false, c2) → ro false s.data.toList 26 a 0 = (false, c2, 12) from fun c2 k2 => hT.out.trans (hfu.trans (ro_nu hnend k1 hbF hn40 k2)))
              have x40 := Lib.hid (show decide (s.data.toList[b]? = some 40) = false from decide_eq_false h40)
              have K1 := Lib.hid k1
              have HR := Lib.hid hr
              clear h40 k1 hr hfu hbF hn40 k2
              go_wp2_with fail
              go_quiet (fail)
              have hrq := HR.out.keep ((But.refl [] wr).drewN nq) (by simp)
              have hbq := (But.refl [Q] wr).drewN nq
              have tok : True := trivial
              go_wp2_with (go_at_call 34; have _t := tok; clear tok; refine (wt_ok (w0 := wr) [32] (by decide) hs hc hrq hbq K1.out).mono ?_; rintro e w1 ⟨rfl, hr1, hb1⟩)
              have tok : True := trivial
              go_wp2_with (go_at_call 42; have _t := tok; clear tok; refine (is_c 40 false hr1 hb1 x40.out).mono ?_; rintro e w2 ⟨rfl, hr2, hb2⟩)
              have tok : True := trivial
              go_wp2_with (first | (go_at_call 23; have _t := tok; clear tok; refine (nt_any Q b s hs l1 _ hr2).mono ?_; rintro e w3 ⟨hbb, x, y, rfl, hx, hy, hway⟩; have HW := Lib.hid hway; clear hway; have hb3 := hb2.trans hbb; have hob3 := hob.keep hb3 (fun g' hg' => by cases hg'); have hbW := hb.trans hb3; have hsz3 := hbW.size) | (at_builtin; refine wpList_append_oz rfl _ _ rfl W.heap.size (.slice none 0 0) l rfl (hob3.alloc _) ⟨w3.heap.size, 0, none⟩ 1 1 [(x, y)] rfl rfl (one_cplx w3 _ _) (by omega) (by simp; omega) ?_; intro v' w' hob' hgr' hnn hown))
              go_roundw
              case rel =>
                have hbg : But [] w3 w' := ((But.refl [] w3).alloc _).grown hgr' (fun g' hg' => by cases hg')
                have hKR : ∀ c f p, Rr w3 Q s c f p → Rr w' Q s c f p := fun c f p h => h.keep hbg (by simp)
                have hBW : But [Q] W w' := (hbW.alloc _).grown hgr' (fun g' hg' => by cases hg')
                rcases HW.out with ⟨c2, k2, hr3, hi, hf⟩ | ⟨c2, k2, hf, hr3⟩ | ⟨c2, d, k2, hr3⟩
                · exact absurd (HK.out.symm.trans k2) (by simp)
                · exact absurd (HK.out.symm.trans k2) (by simp)
                · exact ⟨l ++ [(x, y)], hob', (by rw [List.length_append, List.length_singleton]; omega), hBW, .inr ⟨c2, 12, d, .inl rfl, hKR _ _ _ hr3, Lib.hid (HB.out c2 k2)⟩⟩
              case measure =>
                rcases hob'.form with ⟨_, h⟩ | ⟨g', cap', cur', rfl, _⟩
                · exact absurd (congrArg List.length h) (by simp)
                · simp only [slen', List.length_append, List.length_singleton]; omega
            · have k2 : nu s.data.toList b = (false, b) := nu_1 (by rw [tk, if_neg h40])
              have HK := Lib.hid k2
              have HN := Lib.hid (show ∀ c2, nu s.data.toList b = (true, c2) → FiN s.data.toList b c2 → ro false s.data.toList 26 a 0 = ro false s.data.toList (25 - l.length) c2 (l.length + 1) from fun c2 k2 hf => hT.out.trans (hfu.trans (ro_next hnend k1 hbF hn40 k2 hf)))
              have HA := Lib.hid (show ∀ c2, nu s.data.toList b = (true, c2) → ¬ FiN s.data.toList b c2 → ro false s.data.toList 26 a 0 = (false, b, 5) from fun c2 k2 hf => hT.out.trans (hfu.trans (ro_nan hnend k1 hbF hn40 k2 hf)))
              have HB := Lib.hid (show ∀ c2, nu s.data.toList b = (false, c2) → ro false s.data.toList 26 a 0 = (false, c2, 12) from fun c2 k2 => hT.out.trans (hfu.trans (ro_nu hnend k1 hbF hn40 k2)))
              have x40 := Lib.hid (show decide (s.data.toList[b]? = some 40) = false from decide_eq_false h40)
              have K1 := Lib.hid k1
              have HR := Lib.hid hr
              clear h40 k1 hr hfu hbF hn40 k2
              go_wp2_with fail
              go_quiet (fail)
              have hrq := HR.out.keep ((But.refl [] wr).drewN nq) (by simp)
              have hbq := (But.refl [Q] wr).drewN nq
              have tok : True := trivial
              go_wp2_with (go_at_call 34; have _t := tok; clear tok; refine (wt_ok (w0 := wr) [32] (by decide) hs hc hrq hbq K1.out).mono ?_; rintro e w1 ⟨rfl, hr1, hb1⟩)
              have tok : True := trivial
              go_wp2_with (go_at_call 42; have _t := tok; clear tok; refine (is_c 40 false hr1 hb1 x40.out).mono ?_; rintro e w2 ⟨rfl, hr2, hb2⟩)
              have tok : True := trivial
              go_wp2_with (first | (go_at_call 23; have _t := tok; clear tok; refine (nt_any Q b s hs l1 _ hr2).mono ?_; rintro e w3 ⟨hbb, x, y, rfl, hx, hy, hway⟩; have HW := Lib.hid hway; clear hway; have hb3 := hb2.trans hbb; have hob3 := hob.keep hb3 (fun g' hg' => by cases hg'; simp; omega); have hbW := hb.trans hb3; have hsz3 := hbW.size) | (at_builtin; refine wpList_append_oz rfl _ _ rfl W.heap.size (.slice (some ⟨g, 0, none⟩) l.length cap) l rfl (hob3.alloc _) ⟨w3.heap.size, 0, none⟩ 1 1 [(x, y)] rfl rfl (one_cplx w3 _ _) (by omega) (by simp; omega) ?_; intro v' w' hob' hgr' hnn hown))
              go_roundw
              case rel =>
                have hbg : But [g] w3 w' := ((But.refl [g] w3).alloc _).grown hgr' (fun g' hg' => by cases hg'; exact .inl (by simp))
                have hKR : ∀ c f p, Rr w3 Q s c f p → Rr w' Q s c f p := fun c f p h => h.keep hbg (by simp; omega)
                have hBW : But [Q] W w' := (hbW.alloc _).grown hgr' (fun g' hg' => by cases hg'; exact .inr hgB)
                rcases HW.out with ⟨c2, k2, hr3, hi, hf⟩ | ⟨c2, k2, hf, hr3⟩ | ⟨c2, d, k2, hr3⟩
                · exact absurd (HK.out.symm.trans k2) (by simp)
                · exact absurd (HK.out.symm.trans k2) (by simp)
                · exact ⟨l ++ [(x, y)], hob', (by rw [List.length_append, List.length_singleton]; omega), hBW, .inr ⟨c2, 12, d, .inl rfl, hKR _ _ _ hr3, Lib.hid (HB.out c2 k2)⟩⟩
              case measure =>
                rcases hob'.form with ⟨_, h⟩ | ⟨g', cap', cur', rfl, _⟩
                · exact absurd (congrArg List.length h) (by simp)
                · simp only [slen', List.length_append, List.length_singleton]; omega
        · rcases hob.form with ⟨rfl, hl0⟩ | ⟨g, cap, cur, rfl, hgB, hgc, hcap, _hc⟩
          · have hll : l.length = 0 := by rw [hl0]; rfl
            have HE := Lib.hid (hT.out.trans (hfu.trans (ro_sp hnend k1)))
            have K1 := Lib.hid k1
            have HR := Lib.hid hr
            clear hr hfu k1
            go_wp2_with fail
            go_quiet (fail)
            have hrq := HR.out.keep ((But.refl [] wr).drewN nq) (by simp)
            have hbq := (But.refl [Q] wr).drewN nq
            have tok : True := trivial
            go_wp2_with (go_at_call 34; have _t := tok; clear tok; refine (wt_no (w0 := wr) [32] (by decide) hs hc hrq hbq K1.out).mono ?_; rintro e w1 ⟨rfl, hr1, hb1⟩; obtain ⟨y0, y1, y2, y3, yf⟩ := hr1.cells; clear yf)
            have tok : True := trivial
            go_wp2_with (go_at_call 42; have _t := tok; clear tok; refine (is_g rfl 40 hr1 hb1).mono ?_; rintro e w2 ⟨rfl, hr2, hb2⟩)
            have tok : True := trivial
            go_wp2_with (first | (go_at_call 23; have _t := tok; clear tok; refine (nt_g Q b b 12 rfl rfl true s _ hr2).mono ?_; rintro e w3 ⟨rfl, hr3, hbb⟩; have hb3 := hb2.trans hbb; have hob3 := hob.keep hb3 (fun g' hg' => by cases hg'); have hbW := hb.trans hb3; have hsz3 := hbW.size) | (at_builtin; refine wpList_append_oz rfl _ _ rfl W.heap.size (.slice none 0 0) l rfl (hob3.alloc _) ⟨w3.heap.size, 0, none⟩ 1 1 [(0, 0)] rfl rfl (one_cplx w3 _ _) (by omega) (by simp; omega) ?_; intro v' w' hob' hgr' hnn hown))
            go_roundw
            case rel =>
              have hbg : But [] w3 w' := ((But.refl [] w3).alloc _).grown hgr' (fun g' hg' => by cases hg')
              have hKR : ∀ c f p, Rr w3 Q s c f p → Rr w' Q s c f p := fun c f p h => h.keep hbg (by simp)
              have hBW : But [Q] W w' := (hbW.alloc _).grown hgr' (fun g' hg' => by cases hg')
              exact ⟨l ++ [(0, 0)], hob', (by rw [List.length_append, List.length_singleton]; omega), hBW, .inr ⟨b, 12, b, .inl rfl, hKR _ _ _ hr3, HE⟩⟩
            case measure =>
              rcases hob'.form with ⟨_, h⟩ | ⟨g', cap', cur', rfl, _⟩
              · exact absurd (congrArg List.length h) (by simp)
              · simp only [slen', List.length_append, List.length_singleton]; omega
          · have HE := Lib.hid (hT.out.trans (hfu.trans (ro_sp hnend k1)))
            have K1 := Lib.hid k1
            have HR := Lib.hid hr
            clear hr hfu k1
            go_wp2_with fail
            go_quiet (fail)
            have hrq := HR.out.keep ((But.refl [] wr).drewN nq) (by simp)
            have hbq := (But.refl [Q] wr).drewN nq
            have tok : True := trivial
            go_wp2_with (go_at_call 34; have _t := tok; clear tok; refine (wt_no (w0 := wr) [32] (by decide) hs hc hrq hbq K1.out).mono ?_; rintro e w1 ⟨rfl, hr1, hb1⟩; obtain ⟨y0, y1, y2, y3, yf⟩ := hr1.cells; clear yf)
            have tok : True := trivial
            go_wp2_with (go_at_call 42; have _t := tok; clear tok; refine (is_g rfl 40 hr1 hb1).mono ?_; rintro e w2 ⟨rfl, hr2, hb2⟩)
            have tok : True := trivial
            go_wp2_with (first | (go_at_call 23; have _t := tok; clear tok; refine (nt_g Q b b 12 rfl rfl true s _ hr2).mono ?_; rintro e w3 ⟨rfl, hr3, hbb⟩; have hb3 := hb2.trans hbb; have hob3 := hob.keep hb3 (fun g' hg' => by cases hg'; simp; omega); have hbW := hb.trans hb3; have hsz3 := hbW.size) | (at_builtin; refine wpList_append_oz rfl _ _ rfl W.heap.size (.slice (some ⟨g, 0, none⟩) l.length cap) l rfl (hob3.alloc _) ⟨w3.heap.size, 0, none⟩ 1 1 [(0, 0)] rfl rfl (one_cplx w3 _ _) (by omega) (by simp; omega) ?_; intro v' w' hob' hgr' hnn hown))
            go_roundw
            case rel =>
              have hbg : But [g] w3 w' := ((But.refl [g] w3).alloc _).grown hgr' (fun g' hg' => by cases hg'; exact .inl (by simp))
              have hKR : ∀ c f p, Rr w3 Q s c f p → Rr w' Q s c f p := fun c f p h => h.keep hbg (by simp; omega)
              have hBW : But [Q] W w' := (hbW.alloc _).grown hgr' (fun g' hg' => by cases hg'; exact .inr hgB)
              exact ⟨l ++ [(0, 0)], hob', (by rw [List.length_append, List.length_singleton]; omega), hBW, .inr ⟨b, 12, b, .inl rfl, hKR _ _ _ hr3, HE⟩⟩
            case measure =>
              rcases hob'.form with ⟨_, h⟩ | ⟨g', cap', cur', rfl, _⟩
              · exact absurd (congrArg List.length h) (by simp)
              · simp only [slen', List.length_append, List.length_singleton]; omega
      · have hend : (false = false ∧ ¬ c < s.data.toList.length) := by simp; omega
        have t1 : decide ((c : Int) < (s.size : Int)) = false := decide_eq_false (by omega)
        have HE := Lib.hid (hT.out.trans (show ro false s.data.toList (26 - l.length) c l.length = (true, c, 0) by rw [show 26 - l.length = (25 - l.length) + 1 by omega]; exact ro_end hend))
        have HR := Lib.hid hr
        clear hr
        go_wp2_with fail
        go_quiet (fail)
        go_wp2_with fail
        go_ret
        exact ⟨hb.drewN nq, .inl ⟨l, c, _, HE.out, rfl, hob.keep ((But.refl [] wr).drewN nq) (by simp), HR.out.keep ((But.refl [] wr).drewN nq) (by simp), by simpa using hI.out, hl, hF.out⟩⟩
    · obtain ⟨z0, z1, z2, z3, zf⟩ := hr.cells
      have f0 : ((f : Int) == 0) = false := by rcases hf with rfl | rfl | rfl <;> rfl
      have HF := Lib.hid hf
      have HR := Lib.hid hr
      clear hr zf hf
      go_wp2_with fail
      go_quiet (fail)
      go_wp2_with fail
      go_ret
      exact ⟨hb.drewN nq, .inr ⟨b, f, _, d, hE.out, rfl, HF.out, HR.out.keep ((But.refl [] wr).drewN nq) (by simp), l, hob.keep ((But.refl [] wr).drewN nq) (by simp)⟩⟩
end Go.Proofs.YtnghppgpdeghfaaGreatDoor
