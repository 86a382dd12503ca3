/- The reference's all up to the bar. The reference's reader: what its pieces answer, in chains. -/
import Derived.Test.YtnghppgpdeghfaaGreatDoorZf20
import Derived.Test.YtnghppgpdeghfaaGreatDoorZf19
namespace Go.Proofs.YtnghppgpdeghfaaGreatDoor
open Go.RowKit Go.Proofs.YtnghppgpdeghfaaGreatDoor.Fl Go.Proofs.YtnghppgpdeghfaaGreatDoor.Pt Go.Proofs.YtnghppgpdeghfaaGreatDoor.Tx

set_option linter.unusedSimpArgs false in
set_option maxRecDepth 100000 in
set_option maxHeartbeats 4000000 in
theorem all_true (Q a : Nat) (s : ByteArray) (hs : s.size ≤ 65536) (ha : a ≤ s.size) (W : World) (h : Rr W Q s a 0 0) : Calls Tryz.prog 35 #[.pointer (some ⟨Q, 0, none⟩), .bool true] W (AlP Q a true s W) := by
  have hQW : Q < W.heap.size := (Array.getElem?_eq_some_iff.1 h).1
  go_enter Tryz.func35, Tryz.ntmps35
  go_wp2_with fail
  go_loopw [5] (fun v wr => ∃ (l : List (Nat × Nat)), OZ wr W.heap.size v l ∧ l.length ≤ 25 ∧ But [Q] W wr ∧ ((∃ c : Nat, l.length ≤ 24 ∧ c ≤ s.size ∧ Rr wr Q s c 0 0 ∧ Hid (ro true s.data.toList 26 a 0 = ro true s.data.toList (26 - l.length) c l.length) ∧ Hid (Is s.data.toList a (lsT l) c) ∧ Hid (∀ p ∈ l, p.1 < 18446744073709551616 ∧ p.2 < 18446744073709551616 ∧ finB p.1 p.2 = true)) ∨ (∃ b f d : Nat, (f = 12 ∨ f = 2 ∨ f = 5) ∧ Rr wr Q s d f b ∧ Hid (ro true s.data.toList 26 a 0 = (false, b, f))))) (fun v _ => 30 - slen' v)
  case atStart => exact ⟨[], World.ownsRow_nil W _ _ _, by simp, But.refl _ _, .inl ⟨a, by simp, ha, h, Lib.hid rfl, Lib.hid (Is.nil _ _), Lib.hid (by simp)⟩⟩
  case round =>
    obtain ⟨l, hob, hl25, hb, ⟨c, hl, hc, hr, hT, hI, hF⟩ | ⟨b, f, d, hf, hr, hE⟩⟩ := hrel
    · obtain ⟨z0, z1, z2, z3, zf⟩ := hr.cells
      clear zf
      have hnend : ¬ (true = false ∧ ¬ c < s.data.toList.length) := by simp
      have OWNF : ∀ v w2 x, OZ wr W.heap.size v l → But [Q] wr w2 → OZ (w2.setCell ⟨Q, 1, none⟩ x) W.heap.size v l := fun v w2 x hob h => hob.keep (h.setCell ⟨Q, 1, none⟩ x (.inl (by simp))) (fun g hg => by have := hob.block g hg; simp; omega)
      have hfu : ro true s.data.toList (26 - l.length) c l.length = ro true s.data.toList ((25 - l.length) + 1) c l.length := by rw [show 26 - l.length = (25 - l.length) + 1 by omega]
      rcases pair (x := tk s.data.toList [32] c) with ⟨b, k1⟩ | ⟨b, k1⟩
      · have l1 : b ≤ s.size := by have := tk_le k1 (by simpa using hc); simpa using this
        by_cases hbar : s.data.toList[b]? = some 124
        · have HE := Lib.hid (hT.out.trans (hfu.trans (ro_bar hnend k1 ⟨rfl, hbar⟩)))
          have X124 := Lib.hid (show decide (s.data.toList[b]? = some 124) = true from decide_eq_true hbar)
          have HB := Lib.hid hbar
          have l1' : b < s.size := by have := (List.getElem?_eq_some_iff.1 hbar).1; simpa using this
          have K1 := Lib.hid k1
          have HR := Lib.hid hr
          clear hr hfu hbar k1
          go_wp2_with fail
          go_quiet (fail)
          have hrq := HR.out.keep ((But.refl [] wr).drewN nq) (by simp)
          have hbq := (But.refl [Q] wr).drewN nq
          have tok : True := trivial
          go_wp2_with (go_at_call 34; have _t := tok; clear tok; refine (wt_ok (w0 := wr) [32] (by decide) hs hc hrq hbq K1.out).mono ?_; rintro e w1 ⟨rfl, hr1, hb1⟩)
          have tok : True := trivial
          go_wp2_with (go_at_call 42; have _t := tok; clear tok; refine (is_c 124 true hr1 hb1 X124.out).mono ?_; rintro e w2 ⟨rfl, hr2, hb2⟩; obtain ⟨y0, y1, y2, y3, yf⟩ := hr2.cells; have y4 := yf 1; clear yf)
          go_ret
          have hrs : Rr (w2.setCell ⟨Q, 1, none⟩ (.int .i64 ((b : Int) + 1))) Q s (b + 1) 0 0 := Rr.step hr2 (b + 1)
          exact ⟨hb.trans (hb2.setCell _ _ (.inl (by simp))), .inl ⟨l, b + 1, _, HE.out, rfl, OWNF _ _ _ hob hb2, hrs, hI.out.trans ((tk_is _ _ _ _ K1.out).trans (Is.one HB.out)), hl, hF.out⟩⟩
        have hbF : ¬ ((true : Bool) = true ∧ s.data.toList[b]? = some 124) := fun h => hbar h.2
        have X124 := Lib.hid (show decide (s.data.toList[b]? = some 124) = false from decide_eq_false hbar)
        clear hbar
        by_cases h40 : s.data.toList[b]? = some 40
        · rcases hob.form with ⟨rfl, hl0⟩ | ⟨g, cap, cur, rfl, hgB, hgc, hcap, _hc⟩
          · have hll : l.length = 0 := by rw [hl0]; rfl
            have hn40 : ¬ (s.data.toList[b]? = some 40 ∧ l.length = 24) := fun h => by rw [hl0] at h; simp at h
            have HN := Lib.hid (show ∀ c2, nu s.data.toList b = (true, c2) → FiN s.data.toList b c2 → ro true s.data.toList 26 a 0 = ro true s.data.toList (25 - l.length) c2 (l.length + 1) from fun c2 k2 hf => hT.out.trans (hfu.trans (ro_next hnend k1 hbF hn40 k2 hf)))
            have HA := Lib.hid (show ∀ c2, nu s.data.toList b = (true, c2) → ¬ FiN s.data.toList b c2 → ro true s.data.toList 26 a 0 = (false, b, 5) from fun c2 k2 hf => hT.out.trans (hfu.trans (ro_nan hnend k1 hbF hn40 k2 hf)))
            have HB := Lib.hid (show ∀ c2, nu s.data.toList b = (false, c2) → ro true s.data.toList 26 a 0 = (false, c2, 12) from fun c2 k2 => hT.out.trans (hfu.trans (ro_nu hnend k1 hbF hn40 k2)))
            have x40 := Lib.hid (show decide (s.data.toList[b]? = some 40) = true from decide_eq_true h40)
            have K1 := Lib.hid k1
            have HR := Lib.hid hr
            clear h40 k1 hr hfu hbF hn40
            go_wp2_with fail
            go_quiet (fail)
            have hrq := HR.out.keep ((But.refl [] wr).drewN nq) (by simp)
            have hbq := (But.refl [Q] wr).drewN nq
            have tok : True := trivial
            go_wp2_with (go_at_call 34; have _t := tok; clear tok; refine (wt_ok (w0 := wr) [32] (by decide) hs hc hrq hbq K1.out).mono ?_; rintro e w1 ⟨rfl, hr1, hb1⟩)
            have tok : True := trivial
            go_wp2_with (go_at_call 42; have _t := tok; clear tok; refine (is_c 124 false hr1 hb1 X124.out).mono ?_; rintro e w1b ⟨rfl, hr1b, hb1b⟩)
            have tok : True := trivial
            go_wp2_with (go_at_call 42; have _t := tok; clear tok; refine (is_c 40 true hr1b hb1b x40.out).mono ?_; rintro e w2 ⟨rfl, hr2, hb2⟩)
            have tok : True := trivial
            go_wp2_with (first | (go_at_call 23; have _t := tok; clear tok; refine (nt_any Q b s hs l1 _ hr2).mono ?_; rintro e w3 ⟨hbb, x, y, rfl, hx, hy, hway⟩; have HW := Lib.hid hway; clear hway; have hb3 := hb2.trans hbb; have hob3 := hob.keep hb3 (fun g' hg' => by cases hg'); have hbW := hb.trans hb3; have hsz3 := hbW.size) | (at_builtin; refine wpList_append_oz rfl _ _ rfl W.heap.size (.slice none 0 0) l rfl (hob3.alloc _) ⟨w3.heap.size, 0, none⟩ 1 1 [(x, y)] rfl rfl (one_cplx w3 _ _) (by omega) (by simp; omega) ?_; intro v' w' hob' hgr' hnn hown))
            go_roundw
            case rel =>
              have hbg : But [] w3 w' := ((But.refl [] w3).alloc _).grown hgr' (fun g' hg' => by cases hg')
              have hKR : ∀ c f p, Rr w3 Q s c f p → Rr w' Q s c f p := fun c f p h => h.keep hbg (by simp)
              have hBW : But [Q] W w' := (hbW.alloc _).grown hgr' (fun g' hg' => by cases hg')
              rcases HW.out with ⟨c2, k2, hr3, hi, hf⟩ | ⟨c2, k2, hf, hr3⟩ | ⟨c2, d, k2, hr3⟩
              · have l2 : c2 ≤ s.size := by have := nu_le k2 (by simpa using l1); simpa using this
                exact ⟨l ++ [(x, y)], hob', (by rw [List.length_append, List.length_singleton]; omega), hBW, .inl ⟨c2, by rw [List.length_append, List.length_singleton]; omega, l2, hKR _ _ _ hr3, Lib.hid (by rw [List.length_append, List.length_singleton, show 26 - (l.length + 1) = 25 - l.length by omega]; exact HN.out c2 k2 ⟨x, y, hx, hy, hi, hf⟩), Lib.hid (by rw [lsT_snoc]; exact hI.out.trans ((tk_is _ _ _ _ K1.out).trans hi)), Lib.hid (fun p hp => (List.mem_append.1 hp).elim (fun h => hF.out p h) (fun h => by rw [List.mem_singleton.1 h]; exact ⟨hx, hy, hf⟩))⟩⟩
              · exact ⟨l ++ [(x, y)], hob', (by rw [List.length_append, List.length_singleton]; omega), hBW, .inr ⟨b, 5, c2, .inr (.inr rfl), hKR _ _ _ hr3, Lib.hid (HA.out c2 k2 hf)⟩⟩
              · exact ⟨l ++ [(x, y)], hob', (by rw [List.length_append, List.length_singleton]; omega), hBW, .inr ⟨c2, 12, d, .inl rfl, hKR _ _ _ hr3, Lib.hid (HB.out c2 k2)⟩⟩
            case measure =>
              rcases hob'.form with ⟨_, h⟩ | ⟨g', cap', cur', rfl, _⟩
              · exact absurd (congrArg List.length h) (by simp)
              · simp only [slen', List.length_append, List.length_singleton]; omega
          · by_cases hn : l.length = 24
            · have HE := Lib.hid (hT.out.trans (hfu.trans (ro_full hnend k1 hbF ⟨h40, hn⟩)))
              have q24 : ((l.length : Int) == 24) = true := by simp; omega
              have x40 := Lib.hid (show decide (s.data.toList[b]? = some 40) = true from decide_eq_true h40)
              have K1 := Lib.hid k1
              have HR := Lib.hid hr
              clear h40 k1 hr hfu hbF hn
              go_wp2_with fail
              go_quiet (fail)
              have hrq := HR.out.keep ((But.refl [] wr).drewN nq) (by simp)
              have hbq := (But.refl [Q] wr).drewN nq
              have tok : True := trivial
              go_wp2_with (go_at_call 34; have _t := tok; clear tok; refine (wt_ok (w0 := wr) [32] (by decide) hs hc hrq hbq K1.out).mono ?_; rintro e w1 ⟨rfl, hr1, hb1⟩)
              have tok : True := trivial
              go_wp2_with (go_at_call 42; have _t := tok; clear tok; refine (is_c 124 false hr1 hb1 X124.out).mono ?_; rintro e w1b ⟨rfl, hr1b, hb1b⟩)
              have tok : True := trivial
              go_wp2_with (go_at_call 42; have _t := tok; clear tok; refine (is_c 40 true hr1b hb1b x40.out).mono ?_; rintro e w2 ⟨rfl, hr2, hb2⟩; obtain ⟨y0, y1, y2, y3, yf⟩ := hr2.cells; clear yf)
              have tok : True := trivial
              go_wp2_with (go_at_call 43; have _t := tok; clear tok; refine (fa_on 2 b hr2 hb2).mono ?_; rintro e w2f ⟨rfl, hr2f, hb2f⟩)
              have tok : True := trivial
              go_wp2_with (first | (go_at_call 23; have _t := tok; clear tok; refine (nt_g Q b b 2 rfl rfl true s _ hr2f).mono ?_; rintro e w3 ⟨rfl, hr3, hbb⟩; have hb3 := hb2f.trans hbb; have hob3 := hob.keep hb3 (fun g' hg' => by cases hg'; simp; omega); have hbW := hb.trans hb3; have hsz3 := hbW.size) | (at_builtin; refine wpList_append_oz rfl _ _ rfl W.heap.size (.slice (some ⟨g, 0, none⟩) l.length cap) l rfl (hob3.alloc _) ⟨w3.heap.size, 0, none⟩ 1 1 [(0, 0)] rfl rfl (one_cplx w3 _ _) (by omega) (by simp; omega) ?_; intro v' w' hob' hgr' hnn hown))
              go_roundw
              case rel =>
                have hbg : But [g] w3 w' := ((But.refl [g] w3).alloc _).grown hgr' (fun g' hg' => by cases hg'; exact .inl (by simp))
                have hKR : ∀ c f p, Rr w3 Q s c f p → Rr w' Q s c f p := fun c f p h => h.keep hbg (by simp; omega)
                have hBW : But [Q] W w' := (hbW.alloc _).grown hgr' (fun g' hg' => by cases hg'; exact .inr hgB)
                exact ⟨l ++ [(0, 0)], hob', (by rw [List.length_append, List.length_singleton]; omega), hBW, .inr ⟨b, 2, b, .inr (.inl rfl), hKR _ _ _ hr3, HE⟩⟩
              case measure =>
                rcases hob'.form with ⟨_, h⟩ | ⟨g', cap', cur', rfl, _⟩
                · exact absurd (congrArg List.length h) (by simp)
                · simp only [slen', List.length_append, List.length_singleton]; omega
            · have hn40 : ¬ (s.data.toList[b]? = some 40 ∧ l.length = 24) := fun h => hn h.2
              have HN := Lib.hid (show ∀ c2, nu s.data.toList b = (true, c2) → FiN s.data.toList b c2 → ro true s.data.toList 26 a 0 = ro true s.data.toList (25 - l.length) c2 (l.length + 1) from fun c2 k2 hf => hT.out.trans (hfu.trans (ro_next hnend k1 hbF hn40 k2 hf)))
              have HA := Lib.hid (show ∀ c2, nu s.data.toList b = (true, c2) → ¬ FiN s.data.toList b c2 → ro true s.data.toList 26 a 0 = (false, b, 5) from fun c2 k2 hf => hT.out.trans (hfu.trans (ro_nan hnend k1 hbF hn40 k2 hf)))
              have HB := Lib.hid (show ∀ c2, nu s.data.toList b = (false, c2) → ro true s.data.toList 26 a 0 = (false, c2, 12) from fun c2 k2 => hT.out.trans (hfu.trans (ro_nu hnend k1 hbF hn40 k2)))
              have q24 : ((l.length : Int) == 24) = false := by simp; omega
              have x40 := Lib.hid (show decide (s.data.toList[b]? = some 40) = true from decide_eq_true h40)
              have K1 := Lib.hid k1
              have HR := Lib.hid hr
              clear h40 k1 hr hfu hbF hn40
              go_wp2_with fail
              go_quiet (fail)
              have hrq := HR.out.keep ((But.refl [] wr).drewN nq) (by simp)
              have hbq := (But.refl [Q] wr).drewN nq
              have tok : True := trivial
              go_wp2_with (go_at_call 34; have _t := tok; clear tok; refine (wt_ok (w0 := wr) [32] (by decide) hs hc hrq hbq K1.out).mono ?_; rintro e w1 ⟨rfl, hr1, hb1⟩)
              have tok : True := trivial
              go_wp2_with (go_at_call 42; have _t := tok; clear tok; refine (is_c 124 false hr1 hb1 X124.out).mono ?_; rintro e w1b ⟨rfl, hr1b, hb1b⟩)
              have tok : True := trivial
              go_wp2_with (go_at_call 42; have _t := tok; clear tok; refine (is_c 40 true hr1b hb1b x40.out).mono ?_; rintro e w2 ⟨rfl, hr2, hb2⟩)
              have tok : True := trivial
              go_wp2_with (first | (go_at_call 23; have _t := tok; clear tok; refine (nt_any Q b s hs l1 _ hr2).mono ?_; rintro e w3 ⟨hbb, x, y, rfl, hx, hy, hway⟩; have HW := Lib.hid hway; clear hway; have hb3 := hb2.trans hbb; have hob3 := hob.keep hb3 (fun g' hg' => by cases hg'; simp; omega); have hbW := hb.trans hb3; have hsz3 := hbW.size) | (at_builtin; refine wpList_append_oz rfl _ _ rfl W.heap.size (.slice (some ⟨g, 0, none⟩) l.length cap) l rfl (hob3.alloc _) ⟨w3.heap.size, 0, none⟩ 1 1 [(x, y)] rfl rfl (one_cplx w3 _ _) (by omega) (by simp; omega) ?_; intro v' w' hob' hgr' hnn hown))
              go_roundw
              case rel =>
                have hbg : But [g] w3 w' := ((But.refl [g] w3).alloc _).grown hgr' (fun g' hg' => by cases hg'; exact .inl (by simp))
                have hKR : ∀ c f p, Rr w3 Q s c f p → Rr w' Q s c f p := fun c f p h => h.keep hbg (by simp; omega)
                have hBW : But [Q] W w' := (hbW.alloc _).grown hgr' (fun g' hg' => by cases hg'; exact .inr hgB)
                rcases HW.out with ⟨c2, k2, hr3, hi, hf⟩ | ⟨c2, k2, hf, hr3⟩ | ⟨c2, d, k2, hr3⟩
                · have l2 : c2 ≤ s.size := by have := nu_le k2 (by simpa using l1); simpa using this
                  exact ⟨l ++ [(x, y)], hob', (by rw [List.length_append, List.length_singleton]; omega), hBW, .inl ⟨c2, by rw [List.length_append, List.length_singleton]; omega, l2, hKR _ _ _ hr3, Lib.hid (by rw [List.length_append, List.length_singleton, show 26 - (l.length + 1) = 25 - l.length by omega]; exact HN.out c2 k2 ⟨x, y, hx, hy, hi, hf⟩), Lib.hid (by rw [lsT_snoc]; exact hI.out.trans ((tk_is _ _ _ _ K1.out).trans hi)), Lib.hid (fun p hp => (List.mem_append.1 hp).elim (fun h => hF.out p h) (fun h => by rw [List.mem_singleton.1 h]; exact ⟨hx, hy, hf⟩))⟩⟩
                · exact ⟨l ++ [(x, y)], hob', (by rw [List.length_append, List.length_singleton]; omega), hBW, .inr ⟨b, 5, c2, .inr (.inr rfl), hKR _ _ _ hr3, Lib.hid (HA.out c2 k2 hf)⟩⟩
                · exact ⟨l ++ [(x, y)], hob', (by rw [List.length_append, List.length_singleton]; omega), hBW, .inr ⟨c2, 12, d, .inl rfl, hKR _ _ _ hr3, Lib.hid (HB.out c2 k2)⟩⟩
              case measure =>
                rcases hob'.form with ⟨_, h⟩ | ⟨g', cap', cur', rfl, _⟩
                · exact absurd (congrArg List.length h) (by simp)
                · simp only [slen', List.length_append, List.length_singleton]; omega
        · have hn40 : ¬ (s.data.toList[b]? = some 40 ∧ l.length = 24) := fun h => h40 h.1
          rcases hob.form with ⟨rfl, hl0⟩ | ⟨g, cap, cur, rfl, hgB, hgc, hcap, _hc⟩
          · have hll : l.length = 0 := by rw [hl0]; rfl
            have k2 : nu s.data.toList b = (false, b) := nu_1 (by rw [tk, if_neg h40])
            have HK := Lib.hid k2
            have HN := Lib.hid (show ∀ c2, nu s.data.toList b = (true, c2) → FiN s.data.toList b c2 → ro true s.data.toList 26 a 0 = ro true s.data.toList (25 - l.length) c2 (l.length + 1) from fun c2 k2 hf => hT.out.trans (hfu.trans (ro_next hnend k1 hbF hn40 k2 hf)))
            have HA := Lib.hid (show ∀ c2, nu s.data.toList b = (true, c2) → ¬ FiN s.data.toList b c2 → ro true s.data.toList 26 a 0 = (false, b, 5) from fun c2 k2 hf => hT.out.trans (hfu.trans (ro_nan hnend k1 hbF hn40 k2 hf)))
            have HB := Lib.hid (show ∀ c2, nu s.data.toList b = (false, c2) → ro true s.data.toList 26 a 0 = (false, c2, 12) from fun c2 k2 => hT.out.trans (hfu.trans (ro_nu hnend k1 hbF hn40 k2)))
            have x40 := Lib.hid (show decide (s.data.toList[b]? = some 40) = false from decide_eq_false h40)
            have K1 := Lib.hid k1
            have HR := Lib.hid hr
            clear h40 k1 hr hfu hbF hn40 k2
            go_wp2_with fail
            go_quiet (fail)
            have hrq := HR.out.keep ((But.refl [] wr).drewN nq) (by simp)
            have hbq := (But.refl [Q] wr).drewN nq
            have tok : True := trivial
            go_wp2_with (go_at_call 34; have _t := tok; clear tok; refine (wt_ok (w0 := wr) [32] (by decide) hs hc hrq hbq K1.out).mono ?_; rintro e w1 ⟨rfl, hr1, hb1⟩)
            have tok : True := trivial
            go_wp2_with (go_at_call 42; have _t := tok; clear tok; refine (is_c 124 false hr1 hb1 X124.out).mono ?_; rintro e w1b ⟨rfl, hr1b, hb1b⟩)
            have tok : True := trivial
            go_wp2_with (go_at_call 42; have _t := tok; clear tok; refine (is_c 40 false hr1b hb1b x40.out).mono ?_; rintro e w2 ⟨rfl, hr2, hb2⟩)
            have tok : True := trivial
            go_wp2_with (first | (go_at_call 23; have _t := tok; clear tok; refine (nt_any Q b s hs l1 _ hr2).mono ?_; rintro e w3 ⟨hbb, x, y, rfl, hx, hy, hway⟩; have HW := Lib.hid hway; clear hway; have hb3 := hb2.trans hbb; have hob3 := hob.keep hb3 (fun g' hg' => by cases hg'); have hbW := hb.trans hb3; have hsz3 := hbW.size) | (at_builtin; refine wpList_append_oz rfl _ _ rfl W.heap.size (.slice none 0 0) l rfl (hob3.alloc _) ⟨w3.heap.size, 0, none⟩ 1 1 [(x, y)] rfl rfl (one_cplx w3 _ _) (by omega) (by simp; omega) ?_; intro v' w' hob' hgr' hnn hown))
            go_roundw
            case rel =>
              have hbg : But [] w3 w' := ((But.refl [] w3).alloc _).grown hgr' (fun g' hg' => by cases hg')
              have hKR : ∀ c f p, Rr w3 Q s c f p → Rr w' Q s c f p := fun c f p h => h.keep hbg (by simp)
              have hBW : But [Q] W w' := (hbW.alloc _).grown hgr' (fun g' hg' => by cases hg')
              rcases HW.out with ⟨c2, k2, hr3, hi, hf⟩ | ⟨c2, k2, hf, hr3⟩ | ⟨c2, d, k2, hr3⟩
              · exact absurd (HK.out.symm.trans k2) (by simp)
              · exact absurd (HK.out.symm.trans k2) (by simp)
              · exact ⟨l ++ [(x, y)], hob', (by rw [List.length_append, List.length_singleton]; omega), hBW, .inr ⟨c2, 12, d, .inl rfl, hKR _ _ _ hr3, Lib.hid (HB.out c2 k2)⟩⟩
            case measure =>
              rcases hob'.form with ⟨_, h⟩ | ⟨g', cap', cur', rfl, _⟩
              · exact absurd (congrArg List.length h) (by simp)
              · simp only [slen', List.length_append, List.length_singleton]; omega
          · have k2 : nu s.data.toList b = (false, b) := nu_1 (by rw [tk, if_neg h40])
            have HK := Lib.hid k2
            have HN := Lib.hid (show ∀ c2, nu s.data.toList b = (true, c2) → FiN s.data.toList b c2 → ro true s.data.toList 26 a 0 = ro true s.data.toList (25 - l.length) c2 (l.length + 1) from fun c2 k2 hf => hT.out.trans (hfu.trans (ro_next hnend k1 hbF hn40 k2 hf)))
            have HA := Lib.hid (show ∀ c2, nu s.data.toList b = (true, c2) → ¬ FiN s.data.toList b c2 → ro true s.data.toList 26 a 0 = (false, b, 5) from fun c2 k2 hf => hT.out.trans (hfu.trans (ro_nan hnend k1 hbF hn40 k2 hf)))
            have HB := Lib.hid (show ∀ c2, nu s.data.toList b = (false, c2) → ro true s.data.toList 26 a 0 = (false, c2, 12) from fun c2 k2 => hT.out.trans (hfu.trans (ro_nu hnend k1 hbF hn40 k2)))
            have x40 := Lib.hid (show decide (s.data.toList[b]? = some 40) = false from decide_eq_false h40)
            have K1 := Lib.hid k1
            have HR := Lib.hid hr
            clear h40 k1 hr hfu hbF hn40 k2
            go_wp2_with fail
            go_quiet (fail)
            have hrq := HR.out.keep ((But.refl [] wr).drewN nq) (by simp)
            have hbq := (But.refl [Q] wr).drewN nq
            have tok : True := trivial
            go_wp2_with (go_at_call 34; have _t := tok; clear tok; refine (wt_ok (w0 := wr) [32] (by decide) hs hc hrq hbq K1.out).mono ?_; rintro e w1 ⟨rfl, hr1, hb1⟩)
            have tok : True := trivial
            go_wp2_with (go_at_call 42; have _t := tok; clear tok; refine (is_c 124 false hr1 hb1 X124.out).mono ?_; rintro e w1b ⟨rfl, hr1b, hb1b⟩)
            have tok : True := trivial
            go_wp2_with (go_at_call 42; have _t := tok; clear tok; refine (is_c 40 false hr1b hb1b x40.out).mono ?_; rintro e w2 ⟨rfl, hr2, hb2⟩)
            have tok : True := trivial
            go_wp2_with (first | (go_at_call 23; have _t := tok; clear tok; refine (nt_any Q b s hs l1 _ hr2).mono ?_; rintro e w3 ⟨hbb, x, y, rfl, hx, hy, hway⟩; have HW := Lib.hid hway; clear hway; have hb3 := hb2.trans hbb; have hob3 := hob.keep hb3 (fun g' hg' => by cases hg'; simp; omega); have hbW := hb.trans hb3; have hsz3 := hbW.size) | (at_builtin; refine wpList_append_oz rfl _ _ rfl W.heap.size (.slice (some ⟨g, 0, none⟩) l.length cap) l rfl (hob3.alloc _) ⟨w3.heap.size, 0, none⟩ 1 1 [(x, y)] rfl rfl (one_cplx w3 _ _) (by omega) (by simp; omega) ?_; intro v' w' hob' hgr' hnn hown))
            go_roundw
            case rel =>
              have hbg : But [g] w3 w' := ((But.refl [g] w3).alloc _).grown hgr' (fun g' hg' => by cases hg'; exact .inl (by simp))
              have hKR : ∀ c f p, Rr w3 Q s c f p → Rr w' Q s c f p := fun c f p h => h.keep hbg (by simp; omega)
              have hBW : But [Q] W w' := (hbW.alloc _).grown hgr' (fun g' hg' => by cases hg'; exact .inr hgB)
              rcases HW.out with ⟨c2, k2, hr3, hi, hf⟩ | ⟨c2, k2, hf, hr3⟩ | ⟨c2, d, k2, hr3⟩
              · exact absurd (HK.out.symm.trans k2) (by simp)
              · exact absurd (HK.out.symm.trans k2) (by simp)
              · exact ⟨l ++ [(x, y)], hob', (by rw [List.length_append, List.length_singleton]; omega), hBW, .inr ⟨c2, 12, d, .inl rfl, hKR _ _ _ hr3, Lib.hid (HB.out c2 k2)⟩⟩
            case measure =>
              rcases hob'.form with ⟨_, h⟩ | ⟨g', cap', cur', rfl, _⟩
              · exact absurd (congrArg List.length h) (by simp)
              · simp only [slen', List.length_append, List.length_singleton]; omega
      · rcases hob.form with ⟨rfl, hl0⟩ | ⟨g, cap, cur, rfl, hgB, hgc, hcap, _hc⟩
        · have hll : l.length = 0 := by rw [hl0]; rfl
          have HE := Lib.hid (hT.out.trans (hfu.trans (ro_sp hnend k1)))
          have K1 := Lib.hid k1
          have HR := Lib.hid hr
          clear hr hfu k1
          go_wp2_with fail
          go_quiet (fail)
          have hrq := HR.out.keep ((But.refl [] wr).drewN nq) (by simp)
          have hbq := (But.refl [Q] wr).drewN nq
          have tok : True := trivial
          go_wp2_with (go_at_call 34; have _t := tok; clear tok; refine (wt_no (w0 := wr) [32] (by decide) hs hc hrq hbq K1.out).mono ?_; rintro e w1 ⟨rfl, hr1, hb1⟩; obtain ⟨y0, y1, y2, y3, yf⟩ := hr1.cells; clear yf)
          have tok : True := trivial
          go_wp2_with (go_at_call 42; have _t := tok; clear tok; refine (is_g rfl 124 hr1 hb1).mono ?_; rintro e w1b ⟨rfl, hr1b, hb1b⟩)
          have tok : True := trivial
          go_wp2_with (go_at_call 42; have _t := tok; clear tok; refine (is_g rfl 40 hr1b hb1b).mono ?_; rintro e w2 ⟨rfl, hr2, hb2⟩)
          have tok : True := trivial
          go_wp2_with (first | (go_at_call 23; have _t := tok; clear tok; refine (nt_g Q b b 12 rfl rfl true s _ hr2).mono ?_; rintro e w3 ⟨rfl, hr3, hbb⟩; have hb3 := hb2.trans hbb; have hob3 := hob.keep hb3 (fun g' hg' => by cases hg'); have hbW := hb.trans hb3; have hsz3 := hbW.size) | (at_builtin; refine wpList_append_oz rfl _ _ rfl W.heap.size (.slice none 0 0) l rfl (hob3.alloc _) ⟨w3.heap.size, 0, none⟩ 1 1 [(0, 0)] rfl rfl (one_cplx w3 _ _) (by omega) (by simp; omega) ?_; intro v' w' hob' hgr' hnn hown))
          go_roundw
          case rel =>
            have hbg : But [] w3 w' := ((But.refl [] w3).alloc _).grown hgr' (fun g' hg' => by cases hg')
            have hKR : ∀ c f p, Rr w3 Q s c f p → Rr w' Q s c f p := fun c f p h => h.keep hbg (by simp)
            have hBW : But [Q] W w' := (hbW.alloc _).grown hgr' (fun g' hg' => by cases hg')
            exact ⟨l ++ [(0, 0)], hob', (by rw [List.length_append, List.length_singleton]; omega), hBW, .inr ⟨b, 12, b, .inl rfl, hKR _ _ _ hr3, HE⟩⟩
          case measure =>
            rcases hob'.form with ⟨_, h⟩ | ⟨g', cap', cur', rfl, _⟩
            · exact absurd (congrArg List.length h) (by simp)
            · simp only [slen', List.length_append, List.length_singleton]; omega
        · have HE := Lib.hid (hT.out.trans (hfu.trans (ro_sp hnend k1)))
          have K1 := Lib.hid k1
          have HR := Lib.hid hr
          clear hr hfu k1
          go_wp2_with fail
          go_quiet (fail)
          have hrq := HR.out.keep ((But.refl [] wr).drewN nq) (by simp)
          have hbq := (But.refl [Q] wr).drewN nq
          have tok : True := trivial
          go_wp2_with (go_at_call 34; have _t := tok; clear tok; refine (wt_no (w0 := wr) [32] (by decide) hs hc hrq hbq K1.out).mono ?_; rintro e w1 ⟨rfl, hr1, hb1⟩; obtain ⟨y0, y1, y2, y3, yf⟩ := hr1.cells; clear yf)
          have tok : True := trivial
          go_wp2_with (go_at_call 42; have _t := tok; clear tok; refine (is_g rfl 124 hr1 hb1).mono ?_; rintro e w1b ⟨rfl, hr1b, hb1b⟩)
          have tok : True := trivial
          go_wp2_with (go_at_call 42; have _t := tok; clear tok; refine (is_g rfl 40 hr1b hb1b).mono ?_; rintro e w2 ⟨rfl, hr2, hb2⟩)
          have tok : True := trivial
          go_wp2_with (first | (go_at_call 23; have _t := tok; clear tok; refine (nt_g Q b b 12 rfl rfl true s _ hr2).mono ?_; rintro e w3 ⟨rfl, hr3, hbb⟩; have hb3 := hb2.trans hbb; have hob3 := hob.keep hb3 (fun g' hg' => by cases hg'; simp; omega); have hbW := hb.trans hb3; have hsz3 := hbW.size) | (at_builtin; refine wpList_append_oz rfl _ _ rfl W.heap.size (.slice (some ⟨g, 0, none⟩) l.length cap) l rfl (hob3.alloc _) ⟨w3.heap.size, 0, none⟩ 1 1 [(0, 0)] rfl rfl (one_cplx w3 _ _) (by omega) (by simp; omega) ?_; intro v' w' hob' hgr' hnn hown))
          go_roundw
          case rel =>
            have hbg : But [g] w3 w' := ((But.refl [g] w3).alloc _).grown hgr' (fun g' hg' => by cases hg'; exact .inl (by simp))
            have hKR : ∀ c f p, Rr w3 Q s c f p → Rr w' Q s c f p := fun c f p h => h.keep hbg (by simp; omega)
            have hBW : But [Q] W w' := (hbW.alloc _).grown hgr' (fun g' hg' => by cases hg'; exact .inr hgB)
            exact ⟨l ++ [(0, 0)], hob', (by rw [List.length_append, List.length_singleton]; omega), hBW, .inr ⟨b, 12, b, .inl rfl, hKR _ _ _ hr3, HE⟩⟩
          case measure =>
            rcases hob'.form with ⟨_, h⟩ | ⟨g', cap', cur', rfl, _⟩
            · exact absurd (congrArg List.length h) (by simp)
            · simp only [slen', List.length_append, List.length_singleton]; omega
    · obtain ⟨z0, z1, z2, z3, zf⟩ := hr.cells
      have f0 : ((f : Int) == 0) = false := by rcases hf with rfl | rfl | rfl <;> rfl
      have HF := Lib.hid hf
      have HR := Lib.hid hr
      clear hr zf hf
      go_wp2_with fail
      go_quiet (fail)
      go_wp2_with fail
      go_ret
      exact ⟨hb.drewN nq, .inr ⟨b, f, _, d, hE.out, rfl, HF.out, HR.out.keep ((But.refl [] wr).drewN nq) (by simp), l, hob.keep ((But.refl [] wr).drewN nq) (by simp)⟩⟩
end Go.Proofs.YtnghppgpdeghfaaGreatDoor
namespace Go.Proofs.YtnghppgpdeghfaaGreatDoor
open Go.RowKit Go.Proofs.YtnghppgpdeghfaaGreatDoor.Fl Go.Proofs.YtnghppgpdeghfaaGreatDoor.Pt Go.Proofs.YtnghppgpdeghfaaGreatDoor.Tx

theorem nt_c {Q a c : Nat} {s : ByteArray} {W w0 : World} (hs : s.size ≤ 65536) (ha : a ≤ s.size) (h : Rr W Q s a 0 0) (hb : But [Q] w0 W) (k : nu s.data.toList a = (true, c)) (k2 : FiN s.data.toList a c) : Calls Tryz.prog 23 #[.pointer (some ⟨Q, 0, none⟩), .bool true] W fun e w' => ∃ x y, e = .returned (.complex .f64 x y) ∧ (x < 18446744073709551616 ∧ y < 18446744073709551616 ∧ Is s.data.toList a (num x y) c ∧ finB x y = true) ∧ Rr w' Q s c 0 0 ∧ But [Q] w0 w' := by
  refine (nt_any Q a s hs ha W h).mono ?_
  rintro e w' ⟨h1, x, y, h2, h3, h4, ⟨d, h5, h6, h7, h8⟩ | ⟨d, h5, h6, h7⟩ | ⟨d, d2, h5, h6⟩⟩
  · rw [k] at h5; cases h5; exact ⟨x, y, h2, ⟨h3, h4, h7, h8⟩, h6, hb.trans h1⟩
  · rw [k] at h5; cases h5; exact absurd k2 h6
  · rw [k] at h5; cases h5
theorem nt_bad {Q a p f : Nat} {s : ByteArray} {W w0 : World} (hs : s.size ≤ 65536) (ha : a ≤ s.size) (h : Rr W Q s a 0 0) (hb : But [Q] w0 W) (k : ((nu s.data.toList a = (false, p) ∧ f = 12) ∨ ∃ c, nu s.data.toList a = (true, c) ∧ (¬ FiN s.data.toList a c) ∧ f = 5 ∧ p = a)) : Calls Tryz.prog 23 #[.pointer (some ⟨Q, 0, none⟩), .bool true] W fun e w' => ∃ x y d, e = .returned (.complex .f64 x y) ∧ Rr w' Q s d f p ∧ But [Q] w0 w' := by
  refine (nt_any Q a s hs ha W h).mono ?_
  rintro e w' ⟨h1, x, y, h2, h3, h4, ⟨d, h5, h6, h7, h8⟩ | ⟨d, h5, h6, h7⟩ | ⟨d, d2, h5, h6⟩⟩
  · rcases k with ⟨k, _⟩ | ⟨c, k, k2, _⟩
    · rw [k] at h5; cases h5
    · rw [k] at h5; cases h5; exact absurd ⟨x, y, h3, h4, h7, h8⟩ k2
  · rcases k with ⟨k, _⟩ | ⟨c, k, k2, rfl, rfl⟩
    · rw [k] at h5; cases h5
    · exact ⟨x, y, _, h2, h7, hb.trans h1⟩
  · rcases k with ⟨k, rfl⟩ | ⟨c, k, k2, _⟩
    · rw [k] at h5; cases h5; exact ⟨x, y, _, h2, h6, hb.trans h1⟩
    · rw [k] at h5; cases h5
theorem nt_o {Q a p f : Nat} (hf0 : ((f : Int) == 0) = false) (hf1 : ((f : Int) != 0) = true) {s : ByteArray} {W w0 : World} (h : Rr W Q s a f p) (hb : But [Q] w0 W) : Calls Tryz.prog 23 #[.pointer (some ⟨Q, 0, none⟩), .bool true] W fun r w' => r = .returned (.complex .f64 0 0) ∧ Rr w' Q s a f p ∧ But [Q] w0 w' :=
  (nt_g Q a p f hf0 hf1 true s W h).mono fun _ _ ⟨h1, h2, h3⟩ => ⟨h1, h2, hb.trans h3⟩
theorem all_ok_true {Q a c f : Nat} {s : ByteArray} {W w0 : World} (hs : s.size ≤ 65536) (ha : a ≤ s.size) (h : Rr W Q s a 0 0) (hb : But [Q] w0 W) (k : ro true s.data.toList 26 a 0 = (true, c, f)) : Calls Tryz.prog 35 #[.pointer (some ⟨Q, 0, none⟩), .bool true] W fun e w' => ∃ l p n cap, e = .returned (.slice p n cap) ∧ (OZ w' W.heap.size (.slice p n cap) l ∧ Is s.data.toList a (lsT l ++ [32, 124]) c ∧ l.length ≤ 24 ∧ ∀ p ∈ l, p.1 < 18446744073709551616 ∧ p.2 < 18446744073709551616 ∧ finB p.1 p.2 = true) ∧ Rr w' Q s c 0 0 ∧ But [Q] w0 w' := by
  refine (all_true Q a s hs ha W h).mono ?_
  rintro e w' ⟨h1, ⟨l, d, v, h2, h3, h4, h5, h6, h7⟩ | ⟨b, g, v, d, h2, h3, h4, h5, h6⟩⟩
  · rw [k] at h2; cases h2
    obtain ⟨p, n, cap, rfl⟩ := h4.slice
    exact ⟨l, p, n, cap, h3, ⟨h4, h6, h7⟩, h5, hb.trans h1⟩
  · rw [k] at h2; cases h2
theorem all_bad_true {Q a c f : Nat} {s : ByteArray} {W w0 : World} (hs : s.size ≤ 65536) (ha : a ≤ s.size) (h : Rr W Q s a 0 0) (hb : But [Q] w0 W) (k : ro true s.data.toList 26 a 0 = (false, c, f)) : Calls Tryz.prog 35 #[.pointer (some ⟨Q, 0, none⟩), .bool true] W fun e w' => ∃ p n cap d, e = .returned (.slice p n cap) ∧ Rr w' Q s d f c ∧ But [Q] w0 w' := by
  refine (all_true Q a s hs ha W h).mono ?_
  rintro e w' ⟨h1, ⟨l, d, v, h2, h3, h4, h5, h6, h7⟩ | ⟨b, g, v, d, h2, h3, h4, h5, l, h6⟩⟩
  · rw [k] at h2; cases h2
  · rw [k] at h2; cases h2
    obtain ⟨p, n, cap, rfl⟩ := h6.slice
    exact ⟨p, n, cap, d, h3, h5, hb.trans h1⟩
set_option linter.unusedSimpArgs false in
set_option maxRecDepth 100000 in
set_option maxHeartbeats 2000000 in
theorem all_off_true (Q a p f : Nat) (hf0 : ((f : Int) == 0) = false) (s : ByteArray) (W : World) (h : Rr W Q s a f p) : Calls Tryz.prog 35 #[.pointer (some ⟨Q, 0, none⟩), .bool true] W fun e w' => e = .returned (.slice none 0 0) ∧ Rr w' Q s a f p ∧ But [Q] W w' := by
  obtain ⟨z0, z1, z2, z3, zf⟩ := h.cells
  have HR := Lib.hid h
  clear h zf
  go_enter Tryz.func35, Tryz.ntmps35
  go_wp2_with fail
  refine wp_loop_rounds 1 ?_
  rw [rounds_succ]
  go_wp2_with fail
  go_quiet (fail)
  go_wp2_with fail
  go_ret
  exact ⟨rfl, HR.out.keep ((But.refl [] W).drewN nq) (by simp), (But.refl _ W).drewN nq⟩
theorem al_g_true {Q a p f : Nat} (hf0 : ((f : Int) == 0) = false) {s : ByteArray} {W w0 : World} (h : Rr W Q s a f p) (hb : But [Q] w0 W) : Calls Tryz.prog 35 #[.pointer (some ⟨Q, 0, none⟩), .bool true] W fun e w' => e = .returned (.slice none 0 0) ∧ Rr w' Q s a f p ∧ But [Q] w0 w' :=
  (all_off_true Q a p f hf0 s W h).mono fun _ _ ⟨h1, h2, h3⟩ => ⟨h1, h2, hb.trans h3⟩
theorem all_ok_false {Q a c f : Nat} {s : ByteArray} {W w0 : World} (hs : s.size ≤ 65536) (ha : a ≤ s.size) (h : Rr W Q s a 0 0) (hb : But [Q] w0 W) (k : ro false s.data.toList 26 a 0 = (true, c, f)) : Calls Tryz.prog 35 #[.pointer (some ⟨Q, 0, none⟩), .bool false] W fun e w' => ∃ l p n cap, e = .returned (.slice p n cap) ∧ (OZ w' W.heap.size (.slice p n cap) l ∧ Is s.data.toList a (lsT l ++ []) c ∧ l.length ≤ 24 ∧ ∀ p ∈ l, p.1 < 18446744073709551616 ∧ p.2 < 18446744073709551616 ∧ finB p.1 p.2 = true) ∧ Rr w' Q s c 0 0 ∧ But [Q] w0 w' := by
  refine (all_false Q a s hs ha W h).mono ?_
  rintro e w' ⟨h1, ⟨l, d, v, h2, h3, h4, h5, h6, h7⟩ | ⟨b, g, v, d, h2, h3, h4, h5, h6⟩⟩
  · rw [k] at h2; cases h2
    obtain ⟨p, n, cap, rfl⟩ := h4.slice
    exact ⟨l, p, n, cap, h3, ⟨h4, h6, h7⟩, h5, hb.trans h1⟩
  · rw [k] at h2; cases h2
theorem all_bad_false {Q a c f : Nat} {s : ByteArray} {W w0 : World} (hs : s.size ≤ 65536) (ha : a ≤ s.size) (h : Rr W Q s a 0 0) (hb : But [Q] w0 W) (k : ro false s.data.toList 26 a 0 = (false, c, f)) : Calls Tryz.prog 35 #[.pointer (some ⟨Q, 0, none⟩), .bool false] W fun e w' => ∃ p n cap d, e = .returned (.slice p n cap) ∧ Rr w' Q s d f c ∧ But [Q] w0 w' := by
  refine (all_false Q a s hs ha W h).mono ?_
  rintro e w' ⟨h1, ⟨l, d, v, h2, h3, h4, h5, h6, h7⟩ | ⟨b, g, v, d, h2, h3, h4, h5, l, h6⟩⟩
  · rw [k] at h2; cases h2
  · rw [k] at h2; cases h2
    obtain ⟨p, n, cap, rfl⟩ := h6.slice
    exact ⟨p, n, cap, d, h3, h5, hb.trans h1⟩
set_option linter.unusedSimpArgs false in
set_option maxRecDepth 100000 in
set_option maxHeartbeats 2000000 in
theorem all_off_false (Q a p f : Nat) (hf0 : ((f : Int) == 0) = false) (s : ByteArray) (W : World) (h : Rr W Q s a f p) : Calls Tryz.prog 35 #[.pointer (some ⟨Q, 0, none⟩), .bool false] W fun e w' => e = .returned (.slice none 0 0) ∧ Rr w' Q s a f p ∧ But [Q] W w' := by
  obtain ⟨z0, z1, z2, z3, zf⟩ := h.cells
  have HR := Lib.hid h
  clear h zf
  go_enter Tryz.func35, Tryz.ntmps35
  go_wp2_with fail
  refine wp_loop_rounds 1 ?_
  rw [rounds_succ]
  go_wp2_with fail
  go_quiet (fail)
  go_wp2_with fail
  go_ret
  exact ⟨rfl, HR.out.keep ((But.refl [] W).drewN nq) (by simp), (But.refl _ W).drewN nq⟩
theorem al_g_false {Q a p f : Nat} (hf0 : ((f : Int) == 0) = false) {s : ByteArray} {W w0 : World} (h : Rr W Q s a f p) (hb : But [Q] w0 W) : Calls Tryz.prog 35 #[.pointer (some ⟨Q, 0, none⟩), .bool false] W fun e w' => e = .returned (.slice none 0 0) ∧ Rr w' Q s a f p ∧ But [Q] w0 w' :=
  (all_off_false Q a p f hf0 s W h).mono fun _ _ ⟨h1, h2, h3⟩ => ⟨h1, h2, hb.trans h3⟩
end Go.Proofs.YtnghppgpdeghfaaGreatDoor
