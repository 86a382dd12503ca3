/- The reference's float, whole. -/
import Derived.Test.YtnghppgpdeghfaaGreatDoorB10
import Derived.Test.YtnghppgpdeghfaaGreatDoorB11
import Derived.Test.YtnghppgpdeghfaaGreatDoorB12
import Derived.Test.YtnghppgpdeghfaaGreatDoorB13
namespace Go.Proofs.YtnghppgpdeghfaaGreatDoor
open Go.RowKit Go.Proofs.YtnghppgpdeghfaaGreatDoor.Fl Go.Proofs.YtnghppgpdeghfaaGreatDoor.Pt Go.Proofs.YtnghppgpdeghfaaGreatDoor.Tx

set_option linter.unusedSimpArgs false in
set_option maxRecDepth 100000 in
set_option maxHeartbeats 4000000 in
theorem rf_off (Q a p : Nat) (s : ByteArray) (W : World) (h : Rr W Q s a 12 p) : Calls Tryz.prog 63 #[.pointer (some ⟨Q, 0, none⟩)] W fun r w' => r = .returned (.tuple #[.float .f64 0, .bool false]) ∧ Rr w' Q s a 12 p ∧ But [Q] W w' := by
  have hb0 := But.refl [Q] W
  have hr0 := h
  clear h
  go_enter Tryz.func63, Tryz.ntmps63
  have tok : True := trivial
  go_wp2_with (go_at_call 42; have _t := tok; clear tok; refine (is_f 45 hr0 hb0).mono ?_; rintro e w1 ⟨rfl, hr1, hb1⟩)
  have tok : True := trivial
  go_wp2_with (go_at_call 42; have _t := tok; clear tok; refine (is_f 110 hr1 hb1).mono ?_; rintro e w2 ⟨rfl, hr2, hb2⟩)
  have tok : True := trivial
  go_wp2_with (go_at_call 42; have _t := tok; clear tok; refine (is_f 105 hr2 hb2).mono ?_; rintro e w3 ⟨rfl, hr3, hb3⟩)
  have tok : True := trivial
  go_wp2_with (go_at_call 34; have _t := tok; clear tok; refine (wt_f [48, 120] (by decide) hr3 hb3).mono ?_; rintro e w4 ⟨rfl, hr4, hb4⟩)
  have tok : True := trivial
  go_wp2_with (go_at_call 79; have _t := tok; clear tok; refine (ru_f true false hr4 hb4).mono ?_; rintro e w5 ⟨rfl, hr5, hb5⟩)
  have tok : True := trivial
  go_wp2_with (go_at_call 34; have _t := tok; clear tok; refine (wt_f [112] (by decide) hr5 hb5).mono ?_; rintro e w6 ⟨rfl, hr6, hb6⟩)
  have tok : True := trivial
  go_wp2_with (go_at_call 42; have _t := tok; clear tok; refine (is_f 45 hr6 hb6).mono ?_; rintro e w7 ⟨rfl, hr7, hb7⟩)
  have tok : True := trivial
  go_wp2_with (go_at_call 79; have _t := tok; clear tok; refine (ru_f false false hr7 hb7).mono ?_; rintro e w8 ⟨rfl, hr8, hb8⟩; obtain ⟨y0, y1, y2, y3, yf⟩ := hr8.cells; clear yf)
  exact bodyPost_ret (results_tmp2 rfl _ _ _) rfl ⟨rfl, hr8, hb8⟩

theorem at_lt {s : ByteArray} {a : Nat} {c : UInt8} (h : s.data.toList[a]? = some c) : a + 1 ≤ s.size := by
  have := (List.getElem?_eq_some_iff.1 h).1
  simp at this
  omega
theorem tok_is {L : List UInt8} {a a1 b1 b2 b3 b4 b5 : Nat} {M E : List UInt8} (neg bel : Bool) (h0 : Is L a (if neg then [45] else []) a1) (h1 : Is L a1 [48, 120] b1) (h2 : Is L b1 M b2) (h3 : Is L b2 [112] b3) (h4 : Is L b3 (if bel then [45] else []) b4) (h5 : Is L b4 E b5) : Is L a (tok neg M (pwT bel E)) b5 := by
  have := h0.trans (h1.trans (h2.trans (h3.trans (h4.trans h5))))
  unfold tok pwT
  simpa using this
theorem rf_any (Q a : Nat) (s : ByteArray) (hs : s.size ≤ 65536) (ha : a ≤ s.size) (W : World) (h : Rr W Q s a 0 0) : Calls Tryz.prog 63 #[.pointer (some ⟨Q, 0, none⟩)] W (FlP Q a s W) := by
  by_cases g45 : s.data.toList[a]? = some 45
  · have hal : a + 1 ≤ s.size := at_lt g45
    have n110 : ¬ s.data.toList[a]? = some 110 := by rw [g45]; decide
    have n105 : ¬ s.data.toList[a]? = some 105 := by rw [g45]; decide
    have hss : sf s.data.toList a = sgn s.data.toList a := by rw [sf_sgn, if_neg n110, if_neg n105]
    by_cases g105 : s.data.toList[a + 1]? = some 105
    · exact rf_infm Q a s hs W h (a + 1) rfl hal (decide_eq_true g45) (decide_eq_false (by rw [g105]; decide)) (decide_eq_true g105) (hss.trans (sgn_a g45 g105)) (Is.one g45)
    have hsg : sf s.data.toList a = Tx.sg s.data.toList (a + 1) := hss.trans (sgn_b g45 g105)
    have hpre : Is s.data.toList a (if true then [45] else []) (a + 1) := Is.one g45
    by_cases g110 : s.data.toList[a + 1]? = some 110
    · rcases pair (x := tk s.data.toList [48, 120] (a + 1)) with ⟨b1, k1⟩ | ⟨b1, k1⟩
      · have l1 : b1 ≤ s.size := by have := tk_le k1 (by simpa using hal); simpa using this
        rcases pair (x := rdg true false s.data.toList b1) with ⟨b2, k2⟩ | ⟨b2, k2⟩
        · have d2 : dg isH s.data.toList b1 = (true, b2) := rdg_dg k2
          have l2 : b2 ≤ s.size := by have := dg_le d2 (by simpa using l1); simpa using this
          obtain ⟨M, hM, dM, _⟩ := dg_is d2
          rcases pair (x := tk s.data.toList [112] b2) with ⟨b3, k3⟩ | ⟨b3, k3⟩
          · have l3 : b3 ≤ s.size := by have := tk_le k3 (by simpa using l2); simpa using this
            by_cases x4 : s.data.toList[b3]? = some 45
            · have l4 : b3 + 1 ≤ s.size := at_lt x4
              rcases pair (x := rdg false true s.data.toList (b3 + 1)) with ⟨b5, k5⟩ | ⟨b5, k5⟩
              · have d5 : dg isD s.data.toList (b3 + 1) = (true, b5) := rdg_dg k5
                obtain ⟨E, hE, dE, _⟩ := dg_is d5
                have n48 : ¬ s.data.toList[b3 + 1]? = some 48 := fun e => by unfold rdg at k5; rw [if_pos ⟨rfl, e⟩] at k5; cases k5
                have hsf : sf s.data.toList a = (true, b5) := hsg.trans ((sg_4 k1 d2 k3).trans ((pw_2 x4 n48).trans d5))
                exact rf_mn5b Q a s hs W h (a + 1) rfl hal (decide_eq_true g45) (decide_eq_true g110) (decide_eq_false g105) b1 k1 l1 b2 M hM k2 l2 b3 k3 l3 (decide_eq_true x4) (b3 + 1) rfl l4 b5 E hE k5 dM dE hsf (tok_is true true hpre (tk_is _ _ _ _ k1) hM (tk_is _ _ _ _ k3) (Is.one x4) hE)
              · have hsf : sf s.data.toList a = (false, b5) := by
                  refine hsg.trans ((sg_4 k1 d2 k3).trans ?_)
                  by_cases n48 : s.data.toList[b3 + 1]? = some 48
                  · rw [pw_1 x4 n48]
                    unfold rdg at k5; rw [if_pos ⟨rfl, n48⟩] at k5; exact k5
                  · rw [pw_2 x4 n48]
                    unfold rdg at k5; rw [if_neg (fun e => n48 e.2)] at k5; exact k5
                exact rf_mn4b Q a s hs W h (a + 1) rfl hal (decide_eq_true g45) (decide_eq_true g110) (decide_eq_false g105) b1 k1 l1 b2 M hM k2 l2 b3 k3 l3 (decide_eq_true x4) (b3 + 1) rfl l4 b5 k5 hsf
            · rcases pair (x := rdg false false s.data.toList b3) with ⟨b5, k5⟩ | ⟨b5, k5⟩
              · have d5 : dg isD s.data.toList b3 = (true, b5) := rdg_dg k5
                obtain ⟨E, hE, dE, _⟩ := dg_is d5
                have hsf : sf s.data.toList a = (true, b5) := hsg.trans ((sg_4 k1 d2 k3).trans ((pw_3 x4).trans d5))
                exact rf_mn5a Q a s hs W h (a + 1) rfl hal (decide_eq_true g45) (decide_eq_true g110) (decide_eq_false g105) b1 k1 l1 b2 M hM k2 l2 b3 k3 l3 (decide_eq_false x4) b5 E hE k5 dM dE hsf (tok_is true false hpre (tk_is _ _ _ _ k1) hM (tk_is _ _ _ _ k3) (Is.nil _ _) hE)
              · have hsf : sf s.data.toList a = (false, b5) := by
                  refine hsg.trans ((sg_4 k1 d2 k3).trans ((pw_3 x4).trans ?_))
                  unfold rdg at k5; rw [if_neg (fun e => by cases e.1)] at k5; exact k5
                exact rf_mn4a Q a s hs W h (a + 1) rfl hal (decide_eq_true g45) (decide_eq_true g110) (decide_eq_false g105) b1 k1 l1 b2 M hM k2 l2 b3 k3 l3 (decide_eq_false x4) b5 k5 hsf
          · exact rf_mn3 Q a s hs W h (a + 1) rfl hal (decide_eq_true g45) (decide_eq_true g110) (decide_eq_false g105) b1 k1 l1 b2 M hM k2 l2 b3 k3 (hsg.trans (sg_3 k1 d2 k3))
        · have d2 : dg isH s.data.toList b1 = (false, b2) := by unfold rdg at k2; rw [if_neg (fun e => by cases e.1)] at k2; exact k2
          exact rf_mn2 Q a s hs W h (a + 1) rfl hal (decide_eq_true g45) (decide_eq_true g110) (decide_eq_false g105) b1 k1 l1 b2 k2 (hsg.trans (sg_2 k1 d2))
      · exact rf_mn1 Q a s hs W h (a + 1) rfl hal (decide_eq_true g45) (decide_eq_true g110) (decide_eq_false g105) b1 k1 (hsg.trans (sg_1 k1))

    · rcases pair (x := tk s.data.toList [48, 120] (a + 1)) with ⟨b1, k1⟩ | ⟨b1, k1⟩
      · have l1 : b1 ≤ s.size := by have := tk_le k1 (by simpa using hal); simpa using this
        rcases pair (x := rdg true false s.data.toList b1) with ⟨b2, k2⟩ | ⟨b2, k2⟩
        · have d2 : dg isH s.data.toList b1 = (true, b2) := rdg_dg k2
          have l2 : b2 ≤ s.size := by have := dg_le d2 (by simpa using l1); simpa using this
          obtain ⟨M, hM, dM, _⟩ := dg_is d2
          rcases pair (x := tk s.data.toList [112] b2) with ⟨b3, k3⟩ | ⟨b3, k3⟩
          · have l3 : b3 ≤ s.size := by have := tk_le k3 (by simpa using l2); simpa using this
            by_cases x4 : s.data.toList[b3]? = some 45
            · have l4 : b3 + 1 ≤ s.size := at_lt x4
              rcases pair (x := rdg false true s.data.toList (b3 + 1)) with ⟨b5, k5⟩ | ⟨b5, k5⟩
              · have d5 : dg isD s.data.toList (b3 + 1) = (true, b5) := rdg_dg k5
                obtain ⟨E, hE, dE, _⟩ := dg_is d5
                have n48 : ¬ s.data.toList[b3 + 1]? = some 48 := fun e => by unfold rdg at k5; rw [if_pos ⟨rfl, e⟩] at k5; cases k5
                have hsf : sf s.data.toList a = (true, b5) := hsg.trans ((sg_4 k1 d2 k3).trans ((pw_2 x4 n48).trans d5))
                exact rf_m5b Q a s hs W h (a + 1) rfl hal (decide_eq_true g45) (decide_eq_false g110) (decide_eq_false g105) b1 k1 l1 b2 M hM k2 l2 b3 k3 l3 (decide_eq_true x4) (b3 + 1) rfl l4 b5 E hE k5 dM dE hsf (tok_is true true hpre (tk_is _ _ _ _ k1) hM (tk_is _ _ _ _ k3) (Is.one x4) hE)
              · have hsf : sf s.data.toList a = (false, b5) := by
                  refine hsg.trans ((sg_4 k1 d2 k3).trans ?_)
                  by_cases n48 : s.data.toList[b3 + 1]? = some 48
                  · rw [pw_1 x4 n48]
                    unfold rdg at k5; rw [if_pos ⟨rfl, n48⟩] at k5; exact k5
                  · rw [pw_2 x4 n48]
                    unfold rdg at k5; rw [if_neg (fun e => n48 e.2)] at k5; exact k5
                exact rf_m4b Q a s hs W h (a + 1) rfl hal (decide_eq_true g45) (decide_eq_false g110) (decide_eq_false g105) b1 k1 l1 b2 M hM k2 l2 b3 k3 l3 (decide_eq_true x4) (b3 + 1) rfl l4 b5 k5 hsf
            · rcases pair (x := rdg false false s.data.toList b3) with ⟨b5, k5⟩ | ⟨b5, k5⟩
              · have d5 : dg isD s.data.toList b3 = (true, b5) := rdg_dg k5
                obtain ⟨E, hE, dE, _⟩ := dg_is d5
                have hsf : sf s.data.toList a = (true, b5) := hsg.trans ((sg_4 k1 d2 k3).trans ((pw_3 x4).trans d5))
                exact rf_m5a Q a s hs W h (a + 1) rfl hal (decide_eq_true g45) (decide_eq_false g110) (decide_eq_false g105) b1 k1 l1 b2 M hM k2 l2 b3 k3 l3 (decide_eq_false x4) b5 E hE k5 dM dE hsf (tok_is true false hpre (tk_is _ _ _ _ k1) hM (tk_is _ _ _ _ k3) (Is.nil _ _) hE)
              · have hsf : sf s.data.toList a = (false, b5) := by
                  refine hsg.trans ((sg_4 k1 d2 k3).trans ((pw_3 x4).trans ?_))
                  unfold rdg at k5; rw [if_neg (fun e => by cases e.1)] at k5; exact k5
                exact rf_m4a Q a s hs W h (a + 1) rfl hal (decide_eq_true g45) (decide_eq_false g110) (decide_eq_false g105) b1 k1 l1 b2 M hM k2 l2 b3 k3 l3 (decide_eq_false x4) b5 k5 hsf
          · exact rf_m3 Q a s hs W h (a + 1) rfl hal (decide_eq_true g45) (decide_eq_false g110) (decide_eq_false g105) b1 k1 l1 b2 M hM k2 l2 b3 k3 (hsg.trans (sg_3 k1 d2 k3))
        · have d2 : dg isH s.data.toList b1 = (false, b2) := by unfold rdg at k2; rw [if_neg (fun e => by cases e.1)] at k2; exact k2
          exact rf_m2 Q a s hs W h (a + 1) rfl hal (decide_eq_true g45) (decide_eq_false g110) (decide_eq_false g105) b1 k1 l1 b2 k2 (hsg.trans (sg_2 k1 d2))
      · exact rf_m1 Q a s hs W h (a + 1) rfl hal (decide_eq_true g45) (decide_eq_false g110) (decide_eq_false g105) b1 k1 (hsg.trans (sg_1 k1))

  · by_cases g110 : s.data.toList[a]? = some 110
    · exact rf_nan Q a s hs W h ha (decide_eq_false g45) (decide_eq_true g110) (by rw [sf_sgn, if_pos g110])
    by_cases g105 : s.data.toList[a]? = some 105
    · exact rf_inf Q a s hs W h ha (decide_eq_false g45) (decide_eq_false g110) (decide_eq_true g105) (by rw [sf_sgn, if_neg g110, if_pos g105])
    have hss : sf s.data.toList a = sgn s.data.toList a := by rw [sf_sgn, if_neg g110, if_neg g105]
    have hsg : sf s.data.toList a = Tx.sg s.data.toList a := hss.trans (sgn_c g45)
    have hpre : Is s.data.toList a (if false then [45] else []) a := Is.nil _ _
    rcases pair (x := tk s.data.toList [48, 120] a) with ⟨b1, k1⟩ | ⟨b1, k1⟩
    · have l1 : b1 ≤ s.size := by have := tk_le k1 (by simpa using ha); simpa using this
      rcases pair (x := rdg true false s.data.toList b1) with ⟨b2, k2⟩ | ⟨b2, k2⟩
      · have d2 : dg isH s.data.toList b1 = (true, b2) := rdg_dg k2
        have l2 : b2 ≤ s.size := by have := dg_le d2 (by simpa using l1); simpa using this
        obtain ⟨M, hM, dM, _⟩ := dg_is d2
        rcases pair (x := tk s.data.toList [112] b2) with ⟨b3, k3⟩ | ⟨b3, k3⟩
        · have l3 : b3 ≤ s.size := by have := tk_le k3 (by simpa using l2); simpa using this
          by_cases x4 : s.data.toList[b3]? = some 45
          · have l4 : b3 + 1 ≤ s.size := at_lt x4
            rcases pair (x := rdg false true s.data.toList (b3 + 1)) with ⟨b5, k5⟩ | ⟨b5, k5⟩
            · have d5 : dg isD s.data.toList (b3 + 1) = (true, b5) := rdg_dg k5
              obtain ⟨E, hE, dE, _⟩ := dg_is d5
              have n48 : ¬ s.data.toList[b3 + 1]? = some 48 := fun e => by unfold rdg at k5; rw [if_pos ⟨rfl, e⟩] at k5; cases k5
              have hsf : sf s.data.toList a = (true, b5) := hsg.trans ((sg_4 k1 d2 k3).trans ((pw_2 x4 n48).trans d5))
              exact rf_p5b Q a s hs W h ha (decide_eq_false g45) (decide_eq_false g110) (decide_eq_false g105) b1 k1 l1 b2 M hM k2 l2 b3 k3 l3 (decide_eq_true x4) (b3 + 1) rfl l4 b5 E hE k5 dM dE hsf (tok_is false true hpre (tk_is _ _ _ _ k1) hM (tk_is _ _ _ _ k3) (Is.one x4) hE)
            · have hsf : sf s.data.toList a = (false, b5) := by
                refine hsg.trans ((sg_4 k1 d2 k3).trans ?_)
                by_cases n48 : s.data.toList[b3 + 1]? = some 48
                · rw [pw_1 x4 n48]
                  unfold rdg at k5; rw [if_pos ⟨rfl, n48⟩] at k5; exact k5
                · rw [pw_2 x4 n48]
                  unfold rdg at k5; rw [if_neg (fun e => n48 e.2)] at k5; exact k5
              exact rf_p4b Q a s hs W h ha (decide_eq_false g45) (decide_eq_false g110) (decide_eq_false g105) b1 k1 l1 b2 M hM k2 l2 b3 k3 l3 (decide_eq_true x4) (b3 + 1) rfl l4 b5 k5 hsf
          · rcases pair (x := rdg false false s.data.toList b3) with ⟨b5, k5⟩ | ⟨b5, k5⟩
            · have d5 : dg isD s.data.toList b3 = (true, b5) := rdg_dg k5
              obtain ⟨E, hE, dE, _⟩ := dg_is d5
              have hsf : sf s.data.toList a = (true, b5) := hsg.trans ((sg_4 k1 d2 k3).trans ((pw_3 x4).trans d5))
              exact rf_p5a Q a s hs W h ha (decide_eq_false g45) (decide_eq_false g110) (decide_eq_false g105) b1 k1 l1 b2 M hM k2 l2 b3 k3 l3 (decide_eq_false x4) b5 E hE k5 dM dE hsf (tok_is false false hpre (tk_is _ _ _ _ k1) hM (tk_is _ _ _ _ k3) (Is.nil _ _) hE)
            · have hsf : sf s.data.toList a = (false, b5) := by
                refine hsg.trans ((sg_4 k1 d2 k3).trans ((pw_3 x4).trans ?_))
                unfold rdg at k5; rw [if_neg (fun e => by cases e.1)] at k5; exact k5
              exact rf_p4a Q a s hs W h ha (decide_eq_false g45) (decide_eq_false g110) (decide_eq_false g105) b1 k1 l1 b2 M hM k2 l2 b3 k3 l3 (decide_eq_false x4) b5 k5 hsf
        · exact rf_p3 Q a s hs W h ha (decide_eq_false g45) (decide_eq_false g110) (decide_eq_false g105) b1 k1 l1 b2 M hM k2 l2 b3 k3 (hsg.trans (sg_3 k1 d2 k3))
      · have d2 : dg isH s.data.toList b1 = (false, b2) := by unfold rdg at k2; rw [if_neg (fun e => by cases e.1)] at k2; exact k2
        exact rf_p2 Q a s hs W h ha (decide_eq_false g45) (decide_eq_false g110) (decide_eq_false g105) b1 k1 l1 b2 k2 (hsg.trans (sg_2 k1 d2))
    · exact rf_p1 Q a s hs W h ha (decide_eq_false g45) (decide_eq_false g110) (decide_eq_false g105) b1 k1 (hsg.trans (sg_1 k1))

end Go.Proofs.YtnghppgpdeghfaaGreatDoor
