/- The reference's float, whole. The reference's part. The reference's number, DocRead. -/
import Derived.Test.YtnghppgpdeghfaaGreatDoorZf13
import Derived.Test.YtnghppgpdeghfaaGreatDoorZf14
namespace Go.Proofs.YtnghppgpdeghfaaGreatDoor
open Go.RowKit Go.Proofs.YtnghppgpdeghfaaGreatDoor.Fl Go.Proofs.YtnghppgpdeghfaaGreatDoor.Pt Go.Proofs.YtnghppgpdeghfaaGreatDoor.Tx

set_option linter.unusedSimpArgs false in
set_option maxRecDepth 100000 in
set_option maxHeartbeats 4000000 in
theorem rf_off (Q a p : Nat) (s : ByteArray) (W : World) (h : Rr W Q s a 12 p) : Calls Tryz.prog 63 #[.pointer (some ⟨Q, 0, none⟩)] W fun r w' => r = .returned (.tuple #[.float .f64 0, .bool false]) ∧ Rr w' Q s a 12 p ∧ But [Q] W w' := by
  have hb0 := But.refl [Q] W
  have hr0 := h
  clear h
  go_enter Tryz.func63, Tryz.ntmps63
  have tok : True := trivial
  go_wp2_with (go_at_call 42; have _t := tok; clear tok; refine (is_f 45 hr0 hb0).mono ?_; rintro e w1 ⟨rfl, hr1, hb1⟩)
  have tok : True := trivial
  go_wp2_with (go_at_call 42; have _t := tok; clear tok; refine (is_f 110 hr1 hb1).mono ?_; rintro e w2 ⟨rfl, hr2, hb2⟩)
  have tok : True := trivial
  go_wp2_with (go_at_call 42; have _t := tok; clear tok; refine (is_f 105 hr2 hb2).mono ?_; rintro e w3 ⟨rfl, hr3, hb3⟩)
  have tok : True := trivial
  go_wp2_with (go_at_call 34; have _t := tok; clear tok; refine (wt_f [48, 120] (by decide) hr3 hb3).mono ?_; rintro e w4 ⟨rfl, hr4, hb4⟩)
  have tok : True := trivial
  go_wp2_with (go_at_call 79; have _t := tok; clear tok; refine (ru_f true false hr4 hb4).mono ?_; rintro e w5 ⟨rfl, hr5, hb5⟩)
  have tok : True := trivial
  go_wp2_with (go_at_call 34; have _t := tok; clear tok; refine (wt_f [112] (by decide) hr5 hb5).mono ?_; rintro e w6 ⟨rfl, hr6, hb6⟩)
  have tok : True := trivial
  go_wp2_with (go_at_call 42; have _t := tok; clear tok; refine (is_f 45 hr6 hb6).mono ?_; rintro e w7 ⟨rfl, hr7, hb7⟩)
  have tok : True := trivial
  go_wp2_with (go_at_call 79; have _t := tok; clear tok; refine (ru_f false false hr7 hb7).mono ?_; rintro e w8 ⟨rfl, hr8, hb8⟩; obtain ⟨y0, y1, y2, y3, yf⟩ := hr8.cells; clear yf)
  exact bodyPost_ret (results_tmp2 rfl _ _ _) rfl ⟨rfl, hr8, hb8⟩

theorem at_lt {s : ByteArray} {a : Nat} {c : UInt8} (h : s.data.toList[a]? = some c) : a + 1 ≤ s.size := by
  have := (List.getElem?_eq_some_iff.1 h).1
  simp at this
  omega
theorem tok_is {L : List UInt8} {a a1 b1 b2 b3 b4 b5 : Nat} {M E : List UInt8} (neg bel : Bool) (h0 : Is L a (if neg then [45] else []) a1) (h1 : Is L a1 [48, 120] b1) (h2 : Is L b1 M b2) (h3 : Is L b2 [112] b3) (h4 : Is L b3 (if bel then [45] else []) b4) (h5 : Is L b4 E b5) : Is L a (tok neg M (pwT bel E)) b5 := by
  have := h0.trans (h1.trans (h2.trans (h3.trans (h4.trans h5))))
  unfold tok pwT
  simpa using this
theorem rf_any (Q a : Nat) (s : ByteArray) (hs : s.size ≤ 65536) (ha : a ≤ s.size) (W : World) (h : Rr W Q s a 0 0) : Calls Tryz.prog 63 #[.pointer (some ⟨Q, 0, none⟩)] W (FlP Q a s W) := by
  by_cases g45 : s.data.toList[a]? = some 45
  · have hal : a + 1 ≤ s.size := at_lt g45
    have n110 : ¬ s.data.toList[a]? = some 110 := by rw [g45]; decide
    have n105 : ¬ s.data.toList[a]? = some 105 := by rw [g45]; decide
    have hss : sf s.data.toList a = sgn s.data.toList a := by rw [sf_sgn, if_neg n110, if_neg n105]
    by_cases g105 : s.data.toList[a + 1]? = some 105
    · exact rf_infm Q a s hs W h (a + 1) rfl hal (decide_eq_true g45) (decide_eq_false (by rw [g105]; decide)) (decide_eq_true g105) (hss.trans (sgn_a g45 g105)) (Is.one g45)
    have hsg : sf s.data.toList a = Tx.sg s.data.toList (a + 1) := hss.trans (sgn_b g45 g105)
    have hpre : Is s.data.toList a (if true then [45] else []) (a + 1) := Is.one g45
    by_cases g110 : s.data.toList[a + 1]? = some 110
    · rcases pair (x := tk s.data.toList [48, 120] (a + 1)) with ⟨b1, k1⟩ | ⟨b1, k1⟩
      · have l1 : b1 ≤ s.size := by have := tk_le k1 (by simpa using hal); simpa using this
        rcases pair (x := rdg true false s.data.toList b1) with ⟨b2, k2⟩ | ⟨b2, k2⟩
        · have d2 : dg isH s.data.toList b1 = (true, b2) := rdg_dg k2
          have l2 : b2 ≤ s.size := by have := dg_le d2 (by simpa using l1); simpa using this
          obtain ⟨M, hM, dM, _⟩ := dg_is d2
          rcases pair (x := tk s.data.toList [112] b2) with ⟨b3, k3⟩ | ⟨b3, k3⟩
          · have l3 : b3 ≤ s.size := by have := tk_le k3 (by simpa using l2); simpa using this
            by_cases x4 : s.data.toList[b3]? = some 45
            · have l4 : b3 + 1 ≤ s.size := at_lt x4
              rcases pair (x := rdg false true s.data.toList (b3 + 1)) with ⟨b5, k5⟩ | ⟨b5, k5⟩
              · have d5 : dg isD s.data.toList (b3 + 1) = (true, b5) := rdg_dg k5
                obtain ⟨E, hE, dE, _⟩ := dg_is d5
                have n48 : ¬ s.data.toList[b3 + 1]? = some 48 := fun e => by unfold rdg at k5; rw [if_pos ⟨rfl, e⟩] at k5; cases k5
                have hsf : sf s.data.toList a = (true, b5) := hsg.trans ((sg_4 k1 d2 k3).trans ((pw_2 x4 n48).trans d5))
                exact rf_mn5b Q a s hs W h (a + 1) rfl hal (decide_eq_true g45) (decide_eq_true g110) (decide_eq_false g105) b1 k1 l1 b2 M hM k2 l2 b3 k3 l3 (decide_eq_true x4) (b3 + 1) rfl l4 b5 E hE k5 dM dE hsf (tok_is true true hpre (tk_is _ _ _ _ k1) hM (tk_is _ _ _ _ k3) (Is.one x4) hE)
              · have hsf : sf s.data.toList a = (false, b5) := by
                  refine hsg.trans ((sg_4 k1 d2 k3).trans ?_)
                  by_cases n48 : s.data.toList[b3 + 1]? = some 48
                  · rw [pw_1 x4 n48]
                    unfold rdg at k5; rw [if_pos ⟨rfl, n48⟩] at k5; exact k5
                  · rw [pw_2 x4 n48]
                    unfold rdg at k5; rw [if_neg (fun e => n48 e.2)] at k5; exact k5
                exact rf_mn4b Q a s hs W h (a + 1) rfl hal (decide_eq_true g45) (decide_eq_true g110) (decide_eq_false g105) b1 k1 l1 b2 M hM k2 l2 b3 k3 l3 (decide_eq_true x4) (b3 + 1) rfl l4 b5 k5 hsf
            · rcases pair (x := rdg false false s.data.toList b3) with ⟨b5, k5⟩ | ⟨b5, k5⟩
              · have d5 : dg isD s.data.toList b3 = (true, b5) := rdg_dg k5
                obtain ⟨E, hE, dE, _⟩ := dg_is d5
                have hsf : sf s.data.toList a = (true, b5) := hsg.trans ((sg_4 k1 d2 k3).trans ((pw_3 x4).trans d5))
                exact rf_mn5a Q a s hs W h (a + 1) rfl hal (decide_eq_true g45) (decide_eq_true g110) (decide_eq_false g105) b1 k1 l1 b2 M hM k2 l2 b3 k3 l3 (decide_eq_false x4) b5 E hE k5 dM dE hsf (tok_is true false hpre (tk_is _ _ _ _ k1) hM (tk_is _ _ _ _ k3) (Is.nil _ _) hE)
              · have hsf : sf s.data.toList a = (false, b5) := by
                  refine hsg.trans ((sg_4 k1 d2 k3).trans ((pw_3 x4).trans ?_))
                  unfold rdg at k5; rw [if_neg (fun e => by cases e.1)] at k5; exact k5
                exact rf_mn4a Q a s hs W h (a + 1) rfl hal (decide_eq_true g45) (decide_eq_true g110) (decide_eq_false g105) b1 k1 l1 b2 M hM k2 l2 b3 k3 l3 (decide_eq_false x4) b5 k5 hsf
          · exact rf_mn3 Q a s hs W h (a + 1) rfl hal (decide_eq_true g45) (decide_eq_true g110) (decide_eq_false g105) b1 k1 l1 b2 M hM k2 l2 b3 k3 (hsg.trans (sg_3 k1 d2 k3))
        · have d2 : dg isH s.data.toList b1 = (false, b2) := by unfold rdg at k2; rw [if_neg (fun e => by cases e.1)] at k2; exact k2
          exact rf_mn2 Q a s hs W h (a + 1) rfl hal (decide_eq_true g45) (decide_eq_true g110) (decide_eq_false g105) b1 k1 l1 b2 k2 (hsg.trans (sg_2 k1 d2))
      · exact rf_mn1 Q a s hs W h (a + 1) rfl hal (decide_eq_true g45) (decide_eq_true g110) (decide_eq_false g105) b1 k1 (hsg.trans (sg_1 k1))

    · rcases pair (x := tk s.data.toList [48, 120] (a + 1)) with ⟨b1, k1⟩ | ⟨b1, k1⟩
      · have l1 : b1 ≤ s.size := by have := tk_le k1 (by simpa using hal); simpa using this
        rcases pair (x := rdg true false s.data.toList b1) with ⟨b2, k2⟩ | ⟨b2, k2⟩
        · have d2 : dg isH s.data.toList b1 = (true, b2) := rdg_dg k2
          have l2 : b2 ≤ s.size := by have := dg_le d2 (by simpa using l1); simpa using this
          obtain ⟨M, hM, dM, _⟩ := dg_is d2
          rcases pair (x := tk s.data.toList [112] b2) with ⟨b3, k3⟩ | ⟨b3, k3⟩
          · have l3 : b3 ≤ s.size := by have := tk_le k3 (by simpa using l2); simpa using this
            by_cases x4 : s.data.toList[b3]? = some 45
            · have l4 : b3 + 1 ≤ s.size := at_lt x4
              rcases pair (x := rdg false true s.data.toList (b3 + 1)) with ⟨b5, k5⟩ | ⟨b5, k5⟩
              · have d5 : dg isD s.data.toList (b3 + 1) = (true, b5) := rdg_dg k5
                obtain ⟨E, hE, dE, _⟩ := dg_is d5
                have n48 : ¬ s.data.toList[b3 + 1]? = some 48 := fun e => by unfold rdg at k5; rw [if_pos ⟨rfl, e⟩] at k5; cases k5
                have hsf : sf s.data.toList a = (true, b5) := hsg.trans ((sg_4 k1 d2 k3).trans ((pw_2 x4 n48).trans d5))
                exact rf_m5b Q a s hs W h (a + 1) rfl hal (decide_eq_true g45) (decide_eq_false g110) (decide_eq_false g105) b1 k1 l1 b2 M hM k2 l2 b3 k3 l3 (decide_eq_true x4) (b3 + 1) rfl l4 b5 E hE k5 dM dE hsf (tok_is true true hpre (tk_is _ _ _ _ k1) hM (tk_is _ _ _ _ k3) (Is.one x4) hE)
              · have hsf : sf s.data.toList a = (false, b5) := by
                  refine hsg.trans ((sg_4 k1 d2 k3).trans ?_)
                  by_cases n48 : s.data.toList[b3 + 1]? = some 48
                  · rw [pw_1 x4 n48]
                    unfold rdg at k5; rw [if_pos ⟨rfl, n48⟩] at k5; exact k5
                  · rw [pw_2 x4 n48]
                    unfold rdg at k5; rw [if_neg (fun e => n48 e.2)] at k5; exact k5
                exact rf_m4b Q a s hs W h (a + 1) rfl hal (decide_eq_true g45) (decide_eq_false g110) (decide_eq_false g105) b1 k1 l1 b2 M hM k2 l2 b3 k3 l3 (decide_eq_true x4) (b3 + 1) rfl l4 b5 k5 hsf
            · rcases pair (x := rdg false false s.data.toList b3) with ⟨b5, k5⟩ | ⟨b5, k5⟩
              · have d5 : dg isD s.data.toList b3 = (true, b5) := rdg_dg k5
                obtain ⟨E, hE, dE, _⟩ := dg_is d5
                have hsf : sf s.data.toList a = (true, b5) := hsg.trans ((sg_4 k1 d2 k3).trans ((pw_3 x4).trans d5))
                exact rf_m5a Q a s hs W h (a + 1) rfl hal (decide_eq_true g45) (decide_eq_false g110) (decide_eq_false g105) b1 k1 l1 b2 M hM k2 l2 b3 k3 l3 (decide_eq_false x4) b5 E hE k5 dM dE hsf (tok_is true false hpre (tk_is _ _ _ _ k1) hM (tk_is _ _ _ _ k3) (Is.nil _ _) hE)
              · have hsf : sf s.data.toList a = (false, b5) := by
                  refine hsg.trans ((sg_4 k1 d2 k3).trans ((pw_3 x4).trans ?_))
                  unfold rdg at k5; rw [if_neg (fun e => by cases e.1)] at k5; exact k5
                exact rf_m4a Q a s hs W h (a + 1) rfl hal (decide_eq_true g45) (decide_eq_false g110) (decide_eq_false g105) b1 k1 l1 b2 M hM k2 l2 b3 k3 l3 (decide_eq_false x4) b5 k5 hsf
          · exact rf_m3 Q a s hs W h (a + 1) rfl hal (decide_eq_true g45) (decide_eq_false g110) (decide_eq_false g105) b1 k1 l1 b2 M hM k2 l2 b3 k3 (hsg.trans (sg_3 k1 d2 k3))
        · have d2 : dg isH s.data.toList b1 = (false, b2) := by unfold rdg at k2; rw [if_neg (fun e => by cases e.1)] at k2; exact k2
          exact rf_m2 Q a s hs W h (a + 1) rfl hal (decide_eq_true g45) (decide_eq_false g110) (decide_eq_false g105) b1 k1 l1 b2 k2 (hsg.trans (sg_2 k1 d2))
      · exact rf_m1 Q a s hs W h (a + 1) rfl hal (decide_eq_true g45) (decide_eq_false g110) (decide_eq_false g105) b1 k1 (hsg.trans (sg_1 k1))

  · by_cases g110 : s.data.toList[a]? = some 110
    · exact rf_nan Q a s hs W h ha (decide_eq_false g45) (decide_eq_true g110) (by rw [sf_sgn, if_pos g110])
    by_cases g105 : s.data.toList[a]? = some 105
    · exact rf_inf Q a s hs W h ha (decide_eq_false g45) (decide_eq_false g110) (decide_eq_true g105) (by rw [sf_sgn, if_neg g110, if_pos g105])
    have hss : sf s.data.toList a = sgn s.data.toList a := by rw [sf_sgn, if_neg g110, if_neg g105]
    have hsg : sf s.data.toList a = Tx.sg s.data.toList a := hss.trans (sgn_c g45)
    have hpre : Is s.data.toList a (if false then [45] else []) a := Is.nil _ _
    rcases pair (x := tk s.data.toList [48, 120] a) with ⟨b1, k1⟩ | ⟨b1, k1⟩
    · have l1 : b1 ≤ s.size := by have := tk_le k1 (by simpa using ha); simpa using this
      rcases pair (x := rdg true false s.data.toList b1) with ⟨b2, k2⟩ | ⟨b2, k2⟩
      · have d2 : dg isH s.data.toList b1 = (true, b2) := rdg_dg k2
        have l2 : b2 ≤ s.size := by have := dg_le d2 (by simpa using l1); simpa using this
        obtain ⟨M, hM, dM, _⟩ := dg_is d2
        rcases pair (x := tk s.data.toList [112] b2) with ⟨b3, k3⟩ | ⟨b3, k3⟩
        · have l3 : b3 ≤ s.size := by have := tk_le k3 (by simpa using l2); simpa using this
          by_cases x4 : s.data.toList[b3]? = some 45
          · have l4 : b3 + 1 ≤ s.size := at_lt x4
            rcases pair (x := rdg false true s.data.toList (b3 + 1)) with ⟨b5, k5⟩ | ⟨b5, k5⟩
            · have d5 : dg isD s.data.toList (b3 + 1) = (true, b5) := rdg_dg k5
              obtain ⟨E, hE, dE, _⟩ := dg_is d5
              have n48 : ¬ s.data.toList[b3 + 1]? = some 48 := fun e => by unfold rdg at k5; rw [if_pos ⟨rfl, e⟩] at k5; cases k5
              have hsf : sf s.data.toList a = (true, b5) := hsg.trans ((sg_4 k1 d2 k3).trans ((pw_2 x4 n48).trans d5))
              exact rf_p5b Q a s hs W h ha (decide_eq_false g45) (decide_eq_false g110) (decide_eq_false g105) b1 k1 l1 b2 M hM k2 l2 b3 k3 l3 (decide_eq_true x4) (b3 + 1) rfl l4 b5 E hE k5 dM dE hsf (tok_is false true hpre (tk_is _ _ _ _ k1) hM (tk_is _ _ _ _ k3) (Is.one x4) hE)
            · have hsf : sf s.data.toList a = (false, b5) := by
                refine hsg.trans ((sg_4 k1 d2 k3).trans ?_)
                by_cases n48 : s.data.toList[b3 + 1]? = some 48
                · rw [pw_1 x4 n48]
                  unfold rdg at k5; rw [if_pos ⟨rfl, n48⟩] at k5; exact k5
                · rw [pw_2 x4 n48]
                  unfold rdg at k5; rw [if_neg (fun e => n48 e.2)] at k5; exact k5
              exact rf_p4b Q a s hs W h ha (decide_eq_false g45) (decide_eq_false g110) (decide_eq_false g105) b1 k1 l1 b2 M hM k2 l2 b3 k3 l3 (decide_eq_true x4) (b3 + 1) rfl l4 b5 k5 hsf
          · rcases pair (x := rdg false false s.data.toList b3) with ⟨b5, k5⟩ | ⟨b5, k5⟩
            · have d5 : dg isD s.data.toList b3 = (true, b5) := rdg_dg k5
              obtain ⟨E, hE, dE, _⟩ := dg_is d5
              have hsf : sf s.data.toList a = (true, b5) := hsg.trans ((sg_4 k1 d2 k3).trans ((pw_3 x4).trans d5))
              exact rf_p5a Q a s hs W h ha (decide_eq_false g45) (decide_eq_false g110) (decide_eq_false g105) b1 k1 l1 b2 M hM k2 l2 b3 k3 l3 (decide_eq_false x4) b5 E hE k5 dM dE hsf (tok_is false false hpre (tk_is _ _ _ _ k1) hM (tk_is _ _ _ _ k3) (Is.nil _ _) hE)
            · have hsf : sf s.data.toList a = (false, b5) := by
                refine hsg.trans ((sg_4 k1 d2 k3).trans ((pw_3 x4).trans ?_))
                unfold rdg at k5; rw [if_neg (fun e => by cases e.1)] at k5; exact k5
              exact rf_p4a Q a s hs W h ha (decide_eq_false g45) (decide_eq_false g110) (decide_eq_false g105) b1 k1 l1 b2 M hM k2 l2 b3 k3 l3 (decide_eq_false x4) b5 k5 hsf
        · exact rf_p3 Q a s hs W h ha (decide_eq_false g45) (decide_eq_false g110) (decide_eq_false g105) b1 k1 l1 b2 M hM k2 l2 b3 k3 (hsg.trans (sg_3 k1 d2 k3))
      · have d2 : dg isH s.data.toList b1 = (false, b2) := by unfold rdg at k2; rw [if_neg (fun e => by cases e.1)] at k2; exact k2
        exact rf_p2 Q a s hs W h ha (decide_eq_false g45) (decide_eq_false g110) (decide_eq_false g105) b1 k1 l1 b2 k2 (hsg.trans (sg_2 k1 d2))
    · exact rf_p1 Q a s hs W h ha (decide_eq_false g45) (decide_eq_false g110) (decide_eq_false g105) b1 k1 (hsg.trans (sg_1 k1))

end Go.Proofs.YtnghppgpdeghfaaGreatDoor
namespace Go.Proofs.YtnghppgpdeghfaaGreatDoor
open Go.RowKit Go.Proofs.YtnghppgpdeghfaaGreatDoor.Fl Go.Proofs.YtnghppgpdeghfaaGreatDoor.Pt Go.Proofs.YtnghppgpdeghfaaGreatDoor.Tx

section
variable {Q a b p : Nat} {s : ByteArray} {w0 w : World}
theorem fl_ok (hs : s.size ≤ 65536) (ha : a ≤ s.size) (h : Rr w Q s a 0 0) (hb : But [Q] w0 w) (hk : sf s.data.toList a = (true, b)) : Calls Tryz.prog 63 #[.pointer (some ⟨Q, 0, none⟩)] w fun r w' => ∃ x v, r = .returned (.tuple #[.float .f64 x, .bool v]) ∧ x < 18446744073709551616 ∧ (v = true → fl x = (s.data.toList.drop a).take (b - a)) ∧ (Rt ((s.data.toList.drop a).take (b - a)) → v = true) ∧ Rr w' Q s b 0 0 ∧ But [Q] w0 w' := by
  refine (rf_any Q a s hs ha w h).mono ?_
  rintro r w' ⟨h1, x, v, h2, h3, ⟨c, h4, h5, h6, h7⟩ | ⟨c, d, h4, h5⟩⟩
  · rw [hk] at h4; cases h4; exact ⟨x, v, h2, h3, h6, h7, h5, hb.trans h1⟩
  · rw [hk] at h4; cases h4
theorem fl_no (hs : s.size ≤ 65536) (ha : a ≤ s.size) (h : Rr w Q s a 0 0) (hb : But [Q] w0 w) (hk : sf s.data.toList a = (false, b)) : Calls Tryz.prog 63 #[.pointer (some ⟨Q, 0, none⟩)] w fun r w' => ∃ x v, r = .returned (.tuple #[.float .f64 x, .bool v]) ∧ x < 18446744073709551616 ∧ (∃ d, Rr w' Q s d 12 b) ∧ But [Q] w0 w' := by
  refine (rf_any Q a s hs ha w h).mono ?_
  rintro r w' ⟨h1, x, v, h2, h3, ⟨c, h4, h5, h6, h7⟩ | ⟨c, d, h4, h5⟩⟩
  · rw [hk] at h4; cases h4
  · rw [hk] at h4; cases h4; exact ⟨x, v, h2, h3, ⟨d, h5⟩, hb.trans h1⟩
theorem fa_on (e' p' : Nat) (h : Rr w Q s a 0 0) (hb : But [Q] w0 w) : Calls Tryz.prog 43 #[.pointer (some ⟨Q, 0, none⟩), .int .i64 (e' : Int), .int .i64 (p' : Int)] w fun e w' => e = .returned (.tuple #[]) ∧ Rr w' Q s a e' p' ∧ But [Q] w0 w' :=
  (rfail_on Q a 0 e' p' s w h).mono fun _ _ ⟨h1, h2, h3⟩ => ⟨h1, h2, hb.trans h3⟩
theorem fa_f (e' p' : Nat) (h : Rr w Q s a 12 p) (hb : But [Q] w0 w) : Calls Tryz.prog 43 #[.pointer (some ⟨Q, 0, none⟩), .int .i64 (e' : Int), .int .i64 (p' : Int)] w fun e w' => e = .returned (.tuple #[]) ∧ Rr w' Q s a 12 p ∧ But [Q] w0 w' :=
  (rfail_off Q a 12 p e' p' rfl s w h).mono fun _ _ ⟨h1, h2⟩ => ⟨h1, by rw [h2]; exact h, by rw [h2]; exact hb⟩
end
/-- What part answers. -/
def PtP (Q a : Nat) (e0 : UInt8) (s : ByteArray) (W : World) (r : Ending) (w' : World) : Prop := But [Q] W w' ∧ ∃ x, r = .returned (.float .f64 x) ∧ x < 18446744073709551616 ∧
  ((∃ c, fo e0 s.data.toList a = (true, c) ∧ Rr w' Q s c 0 0 ∧ Is s.data.toList a (fl x ++ [e0]) c) ∨ (∃ c d, fo e0 s.data.toList a = (false, c) ∧ Rr w' Q s d 12 c))
set_option linter.unusedSimpArgs false in
set_option maxRecDepth 100000 in
set_option maxHeartbeats 4000000 in
theorem pt_1 (Q a : Nat) (e0 : UInt8) (s : ByteArray) (hs : s.size ≤ 65536) (ha : a ≤ s.size) (W : World) (h : Rr W Q s a 0 0) (b : Nat) (k : sf s.data.toList a = (false, b)) (hf : fo e0 s.data.toList a = (false, b)) : Calls Tryz.prog 49 #[.pointer (some ⟨Q, 0, none⟩), .int .u8 (e0.toNat : Int)] W (PtP Q a e0 s W) := by
  obtain ⟨c0, c1, c2, c3, cf⟩ := h.cells
  have hb0 := But.refl [Q] W
  have hr0 := h
  clear h cf
  have HS := Lib.hid hf
  clear hf
  go_enter Tryz.func49, Tryz.ntmps49
  have tok : True := trivial
  go_wp2_with (go_at_call 63; have _t := tok; clear tok; refine (fl_no hs ha hr0 hb0 k).mono ?_; rintro e w1 ⟨x, v, rfl, hx, ⟨d, hr1⟩, hb1⟩)
  cases v
  · have tok : True := trivial
    go_wp2_with (go_at_call 42; have _t := tok; clear tok; refine (is_f e0 hr1 hb1).mono ?_; rintro e w2 ⟨rfl, hr2, hb2⟩; obtain ⟨z0, z1, z2, z3, zf⟩ := hr2.cells; clear zf)
    have tok : True := trivial
    go_wp2_with (go_at_call 43; have _t := tok; clear tok; refine (fa_f _ _ hr2 hb2).mono ?_; rintro e w3 ⟨rfl, hr3, hb3⟩; obtain ⟨y0, y1, y2, y3, yf⟩ := hr3.cells; clear yf)
    have tok : True := trivial
    go_wp2_with (go_at_call 43; have _t := tok; clear tok; refine (fa_f _ _ hr3 hb3).mono ?_; rintro e w4 ⟨rfl, hr4, hb4⟩; obtain ⟨x0, x1, x2, x3, xf⟩ := hr4.cells; clear xf)
    go_ret
    exact ⟨hb4, x, rfl, hx, .inr ⟨b, d, HS.out, hr4⟩⟩
  · have tok : True := trivial
    go_wp2_with (go_at_call 42; have _t := tok; clear tok; refine (is_f e0 hr1 hb1).mono ?_; rintro e w2 ⟨rfl, hr2, hb2⟩; obtain ⟨z0, z1, z2, z3, zf⟩ := hr2.cells; clear zf)
    have tok : True := trivial
    go_wp2_with (go_at_call 43; have _t := tok; clear tok; refine (fa_f _ _ hr2 hb2).mono ?_; rintro e w3 ⟨rfl, hr3, hb3⟩; obtain ⟨y0, y1, y2, y3, yf⟩ := hr3.cells; clear yf)
    go_ret
    exact ⟨hb3, x, rfl, hx, .inr ⟨b, d, HS.out, hr3⟩⟩
set_option linter.unusedSimpArgs false in
set_option maxRecDepth 100000 in
set_option maxHeartbeats 4000000 in
theorem pt_2 (Q a : Nat) (e0 : UInt8) (s : ByteArray) (hs : s.size ≤ 65536) (ha : a ≤ s.size) (W : World) (h : Rr W Q s a 0 0) (b : Nat) (k : sf s.data.toList a = (true, b)) (x1 : decide (s.data.toList[b]? = some e0) = false) (hf : fo e0 s.data.toList a = (false, b)) : Calls Tryz.prog 49 #[.pointer (some ⟨Q, 0, none⟩), .int .u8 (e0.toNat : Int)] W (PtP Q a e0 s W) := by
  obtain ⟨c0, c1, c2, c3, cf⟩ := h.cells
  have hb0 := But.refl [Q] W
  have hr0 := h
  clear h cf
  have HS := Lib.hid hf
  clear hf
  go_enter Tryz.func49, Tryz.ntmps49
  have tok : True := trivial
  go_wp2_with (go_at_call 63; have _t := tok; clear tok; refine (fl_ok hs ha hr0 hb0 k).mono ?_; rintro e w1 ⟨x, v, rfl, hx, _hv1, _hv2, hr1, hb1⟩)
  clear _hv1 _hv2
  cases v
  · have tok : True := trivial
    go_wp2_with (go_at_call 42; have _t := tok; clear tok; refine (is_c e0 false hr1 hb1 x1).mono ?_; rintro e w2 ⟨rfl, hr2, hb2⟩; obtain ⟨z0, z1, z2, z3, zf⟩ := hr2.cells; clear zf)
    have tok : True := trivial
    go_wp2_with (go_at_call 43; have _t := tok; clear tok; refine (fa_on 12 b hr2 hb2).mono ?_; rintro e w3 ⟨rfl, hr3, hb3⟩; obtain ⟨y0, y1, y2, y3, yf⟩ := hr3.cells; clear yf)
    have tok : True := trivial
    go_wp2_with (go_at_call 43; have _t := tok; clear tok; refine (fa_f _ _ hr3 hb3).mono ?_; rintro e w4 ⟨rfl, hr4, hb4⟩; obtain ⟨x0, x1, x2, x3, xf⟩ := hr4.cells; clear xf)
    go_ret
    exact ⟨hb4, x, rfl, hx, .inr ⟨b, b, HS.out, hr4⟩⟩
  · have tok : True := trivial
    go_wp2_with (go_at_call 42; have _t := tok; clear tok; refine (is_c e0 false hr1 hb1 x1).mono ?_; rintro e w2 ⟨rfl, hr2, hb2⟩; obtain ⟨z0, z1, z2, z3, zf⟩ := hr2.cells; clear zf)
    have tok : True := trivial
    go_wp2_with (go_at_call 43; have _t := tok; clear tok; refine (fa_on 12 b hr2 hb2).mono ?_; rintro e w3 ⟨rfl, hr3, hb3⟩; obtain ⟨y0, y1, y2, y3, yf⟩ := hr3.cells; clear yf)
    go_ret
    exact ⟨hb3, x, rfl, hx, .inr ⟨b, b, HS.out, hr3⟩⟩
set_option linter.unusedSimpArgs false in
set_option maxRecDepth 100000 in
set_option maxHeartbeats 4000000 in
theorem pt_3 (Q a : Nat) (e0 : UInt8) (s : ByteArray) (hs : s.size ≤ 65536) (ha : a ≤ s.size) (W : World) (h : Rr W Q s a 0 0) (b : Nat) (k : sf s.data.toList a = (true, b)) (x1 : decide (s.data.toList[b]? = some e0) = true) (hR : ¬ Rt ((s.data.toList.drop a).take (b - a))) (hf : fo e0 s.data.toList a = (false, a)) : Calls Tryz.prog 49 #[.pointer (some ⟨Q, 0, none⟩), .int .u8 (e0.toNat : Int)] W (PtP Q a e0 s W) := by
  obtain ⟨c0, c1, c2, c3, cf⟩ := h.cells
  have hb0 := But.refl [Q] W
  have hr0 := h
  clear h cf
  have HS := Lib.hid hf
  clear hf
  go_enter Tryz.func49, Tryz.ntmps49
  have tok : True := trivial
  go_wp2_with (go_at_call 63; have _t := tok; clear tok; refine (fl_ok hs ha hr0 hb0 k).mono ?_; rintro e w1 ⟨x, v, rfl, hx, hv1, _hv2, hr1, hb1⟩)
  obtain rfl : v = false := by
    cases v
    · rfl
    · exact absurd ⟨x, hx, hv1 rfl⟩ hR
  clear hv1 _hv2 hR
  have tok : True := trivial
  go_wp2_with (go_at_call 42; have _t := tok; clear tok; refine (is_c e0 true hr1 hb1 x1).mono ?_; rintro e w2 ⟨rfl, hr2, hb2⟩; obtain ⟨z0, z1, z2, z3, zf⟩ := hr2.cells; clear zf)
  have tok : True := trivial
  go_wp2_with (go_at_call 43; have _t := tok; clear tok; refine (fa_on 12 a hr2 hb2).mono ?_; rintro e w3 ⟨rfl, hr3, hb3⟩; obtain ⟨y0, y1, y2, y3, yf⟩ := hr3.cells; clear yf)
  go_ret
  exact ⟨hb3, x, rfl, hx, .inr ⟨a, b, HS.out, hr3⟩⟩
set_option linter.unusedSimpArgs false in
set_option maxRecDepth 100000 in
set_option maxHeartbeats 4000000 in
theorem pt_4 (Q a : Nat) (e0 : UInt8) (s : ByteArray) (hs : s.size ≤ 65536) (ha : a ≤ s.size) (W : World) (h : Rr W Q s a 0 0) (b b1 : Nat) (hb1e : b1 = b + 1) (hbs : b1 ≤ s.size) (k : sf s.data.toList a = (true, b)) (x1 : decide (s.data.toList[b]? = some e0) = true) (hR : Rt ((s.data.toList.drop a).take (b - a))) (hE : Is s.data.toList b [e0] b1) (hf : fo e0 s.data.toList a = (true, b1)) : Calls Tryz.prog 49 #[.pointer (some ⟨Q, 0, none⟩), .int .u8 (e0.toNat : Int)] W (PtP Q a e0 s W) := by
  obtain ⟨c0, c1, c2, c3, cf⟩ := h.cells
  have hb0 := But.refl [Q] W
  have hr0 := h
  clear h cf
  have HS := Lib.hid hf
  have HE := Lib.hid hE
  have HR := Lib.hid hR
  have e1 : IntKind.i64.wrap ((b : Int) + 1) = (b1 : Int) := by rw [IntKind.wrap_i64]; omega
  clear hf hE hb1e hR
  go_enter Tryz.func49, Tryz.ntmps49
  have tok : True := trivial
  go_wp2_with (go_at_call 63; have _t := tok; clear tok; refine (fl_ok hs ha hr0 hb0 k).mono ?_; rintro e w1 ⟨x, v, rfl, hx, hv1, hv2, hr1, hb1⟩)
  obtain rfl : v = true := hv2 HR.out
  have HV := Lib.hid (hv1 rfl)
  clear hv1 hv2
  have tok : True := trivial
  go_wp2_with (go_at_call 42; have _t := tok; clear tok; refine (is_c e0 true hr1 hb1 x1).mono ?_; rintro e w2 ⟨rfl, hr2, hb2⟩; obtain ⟨z0, z1, z2, z3, zf⟩ := hr2.cells; have zf1 := zf 1; clear zf)
  go_ret
  have hI : Is s.data.toList a (fl x) b := by rw [HV.out]; exact sf_piece k
  exact ⟨hb2.setCell _ _ (.inl (by simp)), x, rfl, hx, .inl ⟨b1, HS.out, hr2.step b1, hI.trans HE.out⟩⟩
set_option linter.unusedSimpArgs false in
set_option maxRecDepth 100000 in
set_option maxHeartbeats 4000000 in
theorem pt_off (Q a p : Nat) (e0 : UInt8) (s : ByteArray) (W : World) (h : Rr W Q s a 12 p) : Calls Tryz.prog 49 #[.pointer (some ⟨Q, 0, none⟩), .int .u8 (e0.toNat : Int)] W fun r w' => r = .returned (.float .f64 0) ∧ Rr w' Q s a 12 p ∧ But [Q] W w' := by
  obtain ⟨c0, c1, c2, c3, cf⟩ := h.cells
  have hb0 := But.refl [Q] W
  have hr0 := h
  clear h cf
  go_enter Tryz.func49, Tryz.ntmps49
  have tok : True := trivial
  go_wp2_with (go_at_call 63; have _t := tok; clear tok; refine (rf_off Q a p s _ hr0).mono ?_; rintro e w1 ⟨rfl, hr1, hbb⟩; have hb1 := hb0.trans hbb)
  have tok : True := trivial
  go_wp2_with (go_at_call 42; have _t := tok; clear tok; refine (is_f e0 hr1 hb1).mono ?_; rintro e w2 ⟨rfl, hr2, hb2⟩; obtain ⟨z0, z1, z2, z3, zf⟩ := hr2.cells; clear zf)
  have tok : True := trivial
  go_wp2_with (go_at_call 43; have _t := tok; clear tok; refine (fa_f _ _ hr2 hb2).mono ?_; rintro e w3 ⟨rfl, hr3, hb3⟩; obtain ⟨y0, y1, y2, y3, yf⟩ := hr3.cells; clear yf)
  have tok : True := trivial
  go_wp2_with (go_at_call 43; have _t := tok; clear tok; refine (fa_f _ _ hr3 hb3).mono ?_; rintro e w4 ⟨rfl, hr4, hb4⟩; obtain ⟨x0, x1, x2, x3, xf⟩ := hr4.cells; clear xf)
  go_ret
  exact ⟨rfl, hr4, hb4⟩

theorem pt_any (Q a : Nat) (e0 : UInt8) (s : ByteArray) (hs : s.size ≤ 65536) (ha : a ≤ s.size) (W : World) (h : Rr W Q s a 0 0) : Calls Tryz.prog 49 #[.pointer (some ⟨Q, 0, none⟩), .int .u8 (e0.toNat : Int)] W (PtP Q a e0 s W) := by
  rcases pair (x := sf s.data.toList a) with ⟨b, k⟩ | ⟨b, k⟩
  · by_cases x1 : s.data.toList[b]? = some e0
    · have ht : tk s.data.toList [e0] b = (true, b + 1) := by rw [tk, if_pos x1]; rfl
      by_cases hR : Rt ((s.data.toList.drop a).take (b - a))
      · exact pt_4 Q a e0 s hs ha W h b (b + 1) rfl (at_lt x1) k (decide_eq_true x1) hR (Is.one x1) (by unfold fo bd; rw [k]; simp [ht, hR])
      · exact pt_3 Q a e0 s hs ha W h b k (decide_eq_true x1) hR (by unfold fo bd; rw [k]; simp [ht, hR])
    · have ht : tk s.data.toList [e0] b = (false, b) := by rw [tk, if_neg x1]
      exact pt_2 Q a e0 s hs ha W h b k (decide_eq_false x1) (by unfold fo bd; rw [k]; simp [ht])
  · exact pt_1 Q a e0 s hs ha W h b k (by unfold fo bd; rw [k]; simp)
end Go.Proofs.YtnghppgpdeghfaaGreatDoor
namespace Go.Proofs.YtnghppgpdeghfaaGreatDoor
open Go.RowKit Go.Proofs.YtnghppgpdeghfaaGreatDoor.Fl Go.Proofs.YtnghppgpdeghfaaGreatDoor.Pt Go.Proofs.YtnghppgpdeghfaaGreatDoor.Tx

section
variable {Q a b p : Nat} {s : ByteArray} {w0 w : World}
theorem pt_ok (e0 : UInt8) (hs : s.size ≤ 65536) (ha : a ≤ s.size) (h : Rr w Q s a 0 0) (hb : But [Q] w0 w) (hk : fo e0 s.data.toList a = (true, b)) : Calls Tryz.prog 49 #[.pointer (some ⟨Q, 0, none⟩), .int .u8 (e0.toNat : Int)] w fun r w' => ∃ x, r = .returned (.float .f64 x) ∧ x < 18446744073709551616 ∧ Is s.data.toList a (fl x ++ [e0]) b ∧ Rr w' Q s b 0 0 ∧ But [Q] w0 w' := by
  refine (pt_any Q a e0 s hs ha w h).mono ?_
  rintro r w' ⟨h1, x, h2, h3, ⟨c, h4, h5, h6⟩ | ⟨c, d, h4, h5⟩⟩
  · rw [hk] at h4; cases h4; exact ⟨x, h2, h3, h6, h5, hb.trans h1⟩
  · rw [hk] at h4; cases h4
theorem pt_no (e0 : UInt8) (hs : s.size ≤ 65536) (ha : a ≤ s.size) (h : Rr w Q s a 0 0) (hb : But [Q] w0 w) (hk : fo e0 s.data.toList a = (false, b)) : Calls Tryz.prog 49 #[.pointer (some ⟨Q, 0, none⟩), .int .u8 (e0.toNat : Int)] w fun r w' => ∃ x, r = .returned (.float .f64 x) ∧ x < 18446744073709551616 ∧ (∃ d, Rr w' Q s d 12 b) ∧ But [Q] w0 w' := by
  refine (pt_any Q a e0 s hs ha w h).mono ?_
  rintro r w' ⟨h1, x, h2, h3, ⟨c, h4, h5, h6⟩ | ⟨c, d, h4, h5⟩⟩
  · rw [hk] at h4; cases h4
  · rw [hk] at h4; cases h4; exact ⟨x, h2, h3, ⟨d, h5⟩, hb.trans h1⟩
theorem pt_o (e0 : UInt8) (h : Rr w Q s a 12 p) (hb : But [Q] w0 w) : Calls Tryz.prog 49 #[.pointer (some ⟨Q, 0, none⟩), .int .u8 (e0.toNat : Int)] w fun r w' => r = .returned (.float .f64 0) ∧ Rr w' Q s a 12 p ∧ But [Q] w0 w' :=
  (pt_off Q a p e0 s w h).mono fun _ _ ⟨h1, h2, h3⟩ => ⟨h1, h2, hb.trans h3⟩
end
/-- What the reference's number answers. -/
def NrP (Q a : Nat) (s : ByteArray) (W : World) (r : Ending) (w' : World) : Prop := But [Q] W w' ∧ ∃ x y, r = .returned (.complex .f64 x y) ∧ x < 18446744073709551616 ∧ y < 18446744073709551616 ∧
  ((∃ c, nu s.data.toList a = (true, c) ∧ Rr w' Q s c 0 0 ∧ Is s.data.toList a (num x y) c) ∨ (∃ c d, nu s.data.toList a = (false, c) ∧ Rr w' Q s d 12 c))
set_option linter.unusedSimpArgs false in
set_option maxRecDepth 100000 in
set_option maxHeartbeats 4000000 in
theorem nr_1 (Q a : Nat) (s : ByteArray) (hs : s.size ≤ 65536) (ha : a ≤ s.size) (W : World) (h : Rr W Q s a 0 0) (b1 : Nat) (k1 : tk s.data.toList [40] a = (false, b1)) (hf : nu s.data.toList a = (false, b1)) : Calls Tryz.prog 23 #[.pointer (some ⟨Q, 0, none⟩), .bool false] W (NrP Q a s W) := by
  obtain ⟨c0, c1, c2, c3, cf⟩ := h.cells
  have hb0 := But.refl [Q] W
  have hr0 := h
  clear h cf
  have HS := Lib.hid hf
  clear hf
  go_enter Tryz.func23, Tryz.ntmps23
  have tok : True := trivial
  go_wp2_with (go_at_call 34; have _t := tok; clear tok; refine (wt_no [40] (by decide) hs ha hr0 hb0 k1).mono ?_; rintro e w1 ⟨rfl, hr1, hb1⟩)
  have tok : True := trivial
  go_wp2_with (go_at_call 49; have _t := tok; clear tok; refine (pt_o 44 hr1 hb1).mono ?_; rintro e w2 ⟨rfl, hr2, hb2⟩)
  have tok : True := trivial
  go_wp2_with (go_at_call 49; have _t := tok; clear tok; refine (pt_o 41 hr2 hb2).mono ?_; rintro e w3 ⟨rfl, hr3, hb3⟩; obtain ⟨y0, y1, y2, y3, yf⟩ := hr3.cells; clear yf)
  go_ret
  exact ⟨hb3, 0, 0, rfl, by decide, by decide, .inr ⟨b1, b1, HS.out, hr3⟩⟩
set_option linter.unusedSimpArgs false in
set_option maxRecDepth 100000 in
set_option maxHeartbeats 4000000 in
theorem nr_2 (Q a : Nat) (s : ByteArray) (hs : s.size ≤ 65536) (ha : a ≤ s.size) (W : World) (h : Rr W Q s a 0 0) (b1 : Nat) (k1 : tk s.data.toList [40] a = (true, b1)) (l1 : b1 ≤ s.size) (b2 : Nat) (k2 : fo 44 s.data.toList b1 = (false, b2)) (hf : nu s.data.toList a = (false, b2)) : Calls Tryz.prog 23 #[.pointer (some ⟨Q, 0, none⟩), .bool false] W (NrP Q a s W) := by
  obtain ⟨c0, c1, c2, c3, cf⟩ := h.cells
  have hb0 := But.refl [Q] W
  have hr0 := h
  clear h cf
  have HS := Lib.hid hf
  clear hf
  go_enter Tryz.func23, Tryz.ntmps23
  have tok : True := trivial
  go_wp2_with (go_at_call 34; have _t := tok; clear tok; refine (wt_ok [40] (by decide) hs ha hr0 hb0 k1).mono ?_; rintro e w1 ⟨rfl, hr1, hb1⟩)
  have tok : True := trivial
  go_wp2_with (go_at_call 49; have _t := tok; clear tok; refine (pt_no 44 hs l1 hr1 hb1 k2).mono ?_; rintro e w2 ⟨x, rfl, hx, ⟨d, hr2⟩, hb2⟩)
  have tok : True := trivial
  go_wp2_with (go_at_call 49; have _t := tok; clear tok; refine (pt_o 41 hr2 hb2).mono ?_; rintro e w3 ⟨rfl, hr3, hb3⟩; obtain ⟨y0, y1, y2, y3, yf⟩ := hr3.cells; clear yf)
  go_ret
  exact ⟨hb3, x, 0, rfl, hx, by decide, .inr ⟨b2, d, HS.out, hr3⟩⟩
set_option linter.unusedSimpArgs false in
set_option maxRecDepth 100000 in
set_option maxHeartbeats 4000000 in
theorem nr_3 (Q a : Nat) (s : ByteArray) (hs : s.size ≤ 65536) (ha : a ≤ s.size) (W : World) (h : Rr W Q s a 0 0) (b1 : Nat) (k1 : tk s.data.toList [40] a = (true, b1)) (l1 : b1 ≤ s.size) (b2 : Nat) (k2 : fo 44 s.data.toList b1 = (true, b2)) (l2 : b2 ≤ s.size) (b3 : Nat) (k3 : fo 41 s.data.toList b2 = (false, b3)) (hf : nu s.data.toList a = (false, b3)) : Calls Tryz.prog 23 #[.pointer (some ⟨Q, 0, none⟩), .bool false] W (NrP Q a s W) := by
  obtain ⟨c0, c1, c2, c3, cf⟩ := h.cells
  have hb0 := But.refl [Q] W
  have hr0 := h
  clear h cf
  have HS := Lib.hid hf
  clear hf
  go_enter Tryz.func23, Tryz.ntmps23
  have tok : True := trivial
  go_wp2_with (go_at_call 34; have _t := tok; clear tok; refine (wt_ok [40] (by decide) hs ha hr0 hb0 k1).mono ?_; rintro e w1 ⟨rfl, hr1, hb1⟩)
  have tok : True := trivial
  go_wp2_with (go_at_call 49; have _t := tok; clear tok; refine (pt_ok 44 hs l1 hr1 hb1 k2).mono ?_; rintro e w2 ⟨x, rfl, hx, _hi, hr2, hb2⟩)
  have tok : True := trivial
  go_wp2_with (go_at_call 49; have _t := tok; clear tok; refine (pt_no 41 hs l2 hr2 hb2 k3).mono ?_; rintro e w3 ⟨y, rfl, hy, ⟨d, hr3⟩, hb3⟩; obtain ⟨y0, y1, y2, y3, yf⟩ := hr3.cells; clear yf)
  go_ret
  exact ⟨hb3, x, y, rfl, hx, hy, .inr ⟨b3, d, HS.out, hr3⟩⟩
set_option linter.unusedSimpArgs false in
set_option maxRecDepth 100000 in
set_option maxHeartbeats 4000000 in
theorem nr_4 (Q a : Nat) (s : ByteArray) (hs : s.size ≤ 65536) (ha : a ≤ s.size) (W : World) (h : Rr W Q s a 0 0) (b1 : Nat) (k1 : tk s.data.toList [40] a = (true, b1)) (l1 : b1 ≤ s.size) (b2 : Nat) (k2 : fo 44 s.data.toList b1 = (true, b2)) (l2 : b2 ≤ s.size) (b3 : Nat) (k3 : fo 41 s.data.toList b2 = (true, b3)) (hf : nu s.data.toList a = (true, b3)) : Calls Tryz.prog 23 #[.pointer (some ⟨Q, 0, none⟩), .bool false] W (NrP Q a s W) := by
  obtain ⟨c0, c1, c2, c3, cf⟩ := h.cells
  have hb0 := But.refl [Q] W
  have hr0 := h
  clear h cf
  have HS := Lib.hid hf
  clear hf
  go_enter Tryz.func23, Tryz.ntmps23
  have tok : True := trivial
  go_wp2_with (go_at_call 34; have _t := tok; clear tok; refine (wt_ok [40] (by decide) hs ha hr0 hb0 k1).mono ?_; rintro e w1 ⟨rfl, hr1, hb1⟩)
  have tok : True := trivial
  go_wp2_with (go_at_call 49; have _t := tok; clear tok; refine (pt_ok 44 hs l1 hr1 hb1 k2).mono ?_; rintro e w2 ⟨x, rfl, hx, hi1, hr2, hb2⟩)
  have tok : True := trivial
  go_wp2_with (go_at_call 49; have _t := tok; clear tok; refine (pt_ok 41 hs l2 hr2 hb2 k3).mono ?_; rintro e w3 ⟨y, rfl, hy, hi2, hr3, hb3⟩; obtain ⟨y0, y1, y2, y3, yf⟩ := hr3.cells; clear yf)
  go_ret
  exact ⟨hb3, x, y, rfl, hx, hy, .inl ⟨b3, HS.out, hr3, nu_is k1 hi1 hi2⟩⟩

theorem nr_any (Q a : Nat) (s : ByteArray) (hs : s.size ≤ 65536) (ha : a ≤ s.size) (W : World) (h : Rr W Q s a 0 0) : Calls Tryz.prog 23 #[.pointer (some ⟨Q, 0, none⟩), .bool false] W (NrP Q a s W) := by
  rcases pair (x := tk s.data.toList [40] a) with ⟨b1, k1⟩ | ⟨b1, k1⟩
  · have l1 : b1 ≤ s.size := by have := tk_le k1 (by simpa using ha); simpa using this
    rcases pair (x := fo 44 s.data.toList b1) with ⟨b2, k2⟩ | ⟨b2, k2⟩
    · have l2 : b2 ≤ s.size := by have := fo_le k2 (by simpa using l1); simpa using this
      rcases pair (x := fo 41 s.data.toList b2) with ⟨b3, k3⟩ | ⟨b3, k3⟩
      · exact nr_4 Q a s hs ha W h b1 k1 l1 b2 k2 l2 b3 k3 (nu_3 k1 k2 k3)
      · exact nr_3 Q a s hs ha W h b1 k1 l1 b2 k2 l2 b3 k3 (nu_3 k1 k2 k3)
    · exact nr_2 Q a s hs ha W h b1 k1 l1 b2 k2 (nu_2 k1 k2)
  · exact nr_1 Q a s hs ha W h b1 k1 (nu_1 k1)
section
variable {Q a b p : Nat} {s : ByteArray} {w0 w : World}
theorem nr_ok (hs : s.size ≤ 65536) (ha : a ≤ s.size) (h : Rr w Q s a 0 0) (hb : But [Q] w0 w) (hk : nu s.data.toList a = (true, b)) : Calls Tryz.prog 23 #[.pointer (some ⟨Q, 0, none⟩), .bool false] w fun r w' => ∃ x y, r = .returned (.complex .f64 x y) ∧ (x < 18446744073709551616 ∧ y < 18446744073709551616 ∧ Is s.data.toList a (num x y) b) ∧ Rr w' Q s b 0 0 ∧ But [Q] w0 w' := by
  refine (nr_any Q a s hs ha w h).mono ?_
  rintro r w' ⟨h1, x, y, h2, h3, h3', ⟨c, h4, h5, h6⟩ | ⟨c, d, h4, h5⟩⟩
  · rw [hk] at h4; cases h4; exact ⟨x, y, h2, ⟨h3, h3', h6⟩, h5, hb.trans h1⟩
  · rw [hk] at h4; cases h4
theorem nr_no (hs : s.size ≤ 65536) (ha : a ≤ s.size) (h : Rr w Q s a 0 0) (hb : But [Q] w0 w) (hk : nu s.data.toList a = (false, b)) : Calls Tryz.prog 23 #[.pointer (some ⟨Q, 0, none⟩), .bool false] w fun r w' => ∃ x y, r = .returned (.complex .f64 x y) ∧ (∃ d, Rr w' Q s d 12 b) ∧ But [Q] w0 w' := by
  refine (nr_any Q a s hs ha w h).mono ?_
  rintro r w' ⟨h1, x, y, h2, h3, h3', ⟨c, h4, h5, h6⟩ | ⟨c, d, h4, h5⟩⟩
  · rw [hk] at h4; cases h4
  · rw [hk] at h4; cases h4; exact ⟨x, y, h2, ⟨d, h5⟩, hb.trans h1⟩
end
set_option linter.unusedSimpArgs false in
set_option maxRecDepth 100000 in
set_option maxHeartbeats 4000000 in
theorem doc_long (s : ByteArray) (hs : 65536 < s.size) (W : World) : Calls Tryz.prog 8 #[.string s] W fun e w' => e = RdE 0 0 0 2 ∧ But [] W w' := by
  have t1 : decide ((s.size : Int) > 65536) = true := by simp; omega
  go_enter Tryz.func8, Tryz.ntmps8
  go_wp2_with fail
  exact bodyPost_ret (results_tmp3 rfl _ _ _) rfl ⟨rfl, But.refl _ _⟩
set_option linter.unusedSimpArgs false in
set_option maxRecDepth 100000 in
set_option maxHeartbeats 4000000 in
theorem doc_no (s : ByteArray) (hs : s.size ≤ 65536) (b : Nat) (k : nu s.data.toList 0 = (false, b)) (W : World) : Calls Tryz.prog 8 #[.string s] W fun e w' => e = RdE 0 0 b 12 ∧ But [] W w' := by
  obtain ⟨U, hU⟩ : ∃ U, U = W.alloc (.cells #[.string s, .int .i64 0, .int .i64 0, .int .i64 0] 60) := ⟨_, rfl⟩
  have u0 : But [] W U := hU ▸ (But.refl [] W).alloc _
  have uR : Rr U W.heap.size s 0 0 0 := by rw [hU]; show (W.heap.push _)[_]? = _; exact Array.getElem?_push_size
  have t1 : decide ((s.size : Int) > 65536) = false := by simp; omega
  have hk := (nr_no hs (Nat.zero_le _) uR (But.refl [W.heap.size] U) k)
  go_enter Tryz.func8, Tryz.ntmps8
  go_wp2_with (first | (go_at_call 23; rw [← hU]; refine hk.mono ?_; rintro e w1 ⟨x, y, rfl, ⟨d, hr⟩, hb⟩) | (go_at_call 24; refine (rend_off _ _ _ 12 rfl s _ hr).mono ?_; rintro e w2 ⟨rfl, hb2⟩))
  refine bodyPost_ret (results_tmp3 rfl _ _ _) rfl ?_
  exact ⟨rfl, (u0.then hb (by simp; omega)).trans hb2⟩
set_option linter.unusedSimpArgs false in
set_option maxRecDepth 100000 in
set_option maxHeartbeats 4000000 in
theorem doc_more (s : ByteArray) (hs : s.size ≤ 65536) (c : Nat) (hc : c < s.size) (k : nu s.data.toList 0 = (true, c)) (W : World) : Calls Tryz.prog 8 #[.string s] W fun e w' => e = RdE 0 0 c 12 ∧ But [] W w' := by
  obtain ⟨U, hU⟩ : ∃ U, U = W.alloc (.cells #[.string s, .int .i64 0, .int .i64 0, .int .i64 0] 60) := ⟨_, rfl⟩
  have u0 : But [] W U := hU ▸ (But.refl [] W).alloc _
  have uR : Rr U W.heap.size s 0 0 0 := by rw [hU]; show (W.heap.push _)[_]? = _; exact Array.getElem?_push_size
  have t1 : decide ((s.size : Int) > 65536) = false := by simp; omega
  have hk := (nr_ok hs (Nat.zero_le _) uR (But.refl [W.heap.size] U) k)
  go_enter Tryz.func8, Tryz.ntmps8
  go_wp2_with (first | (go_at_call 23; rw [← hU]; refine hk.mono ?_; rintro e w1 ⟨x, y, rfl, hx, hr, hb⟩) | (go_at_call 24; refine (rend_more _ _ _ s hc _ hr).mono ?_; rintro e w2 ⟨rfl, hb2⟩))
  refine bodyPost_ret (results_tmp3 rfl _ _ _) rfl ?_
  exact ⟨rfl, u0.then (hb.trans hb2) (by simp; omega)⟩
set_option linter.unusedSimpArgs false in
set_option maxRecDepth 100000 in
set_option maxHeartbeats 4000000 in
theorem doc_ok (s : ByteArray) (hs : s.size ≤ 65536) (k : nu s.data.toList 0 = (true, s.size)) (W : World) : Calls Tryz.prog 8 #[.string s] W fun e w' => ∃ x y, e = RdE x y 0 0 ∧ (x < 18446744073709551616 ∧ y < 18446744073709551616 ∧ Is s.data.toList 0 (num x y) s.size) ∧ But [] W w' := by
  obtain ⟨U, hU⟩ : ∃ U, U = W.alloc (.cells #[.string s, .int .i64 0, .int .i64 0, .int .i64 0] 60) := ⟨_, rfl⟩
  have u0 : But [] W U := hU ▸ (But.refl [] W).alloc _
  have uR : Rr U W.heap.size s 0 0 0 := by rw [hU]; show (W.heap.push _)[_]? = _; exact Array.getElem?_push_size
  have t1 : decide ((s.size : Int) > 65536) = false := by simp; omega
  have hk := (nr_ok hs (Nat.zero_le _) uR (But.refl [W.heap.size] U) k)
  go_enter Tryz.func8, Tryz.ntmps8
  go_wp2_with (first | (go_at_call 23; rw [← hU]; refine hk.mono ?_; rintro e w1 ⟨x, y, rfl, hx, hr, hb⟩) | (go_at_call 24; refine (rend_full _ _ _ s rfl _ hr).mono ?_; rintro e w2 ⟨rfl, hb2⟩))
  refine bodyPost_ret (results_tmp3 rfl _ _ _) rfl ?_
  exact ⟨x, y, rfl, hx, (u0.then hb (by simp; omega)).trans hb2⟩

/-- Every DocRead. -/
theorem Doc_any (s : ByteArray) (W : World) : Calls Tryz.prog 8 #[.string s] W fun e w' => But [] W w' ∧
    ((65536 < s.size ∧ e = RdE 0 0 0 2) ∨ (s.size ≤ 65536 ∧ ∃ b, nu s.data.toList 0 = (false, b) ∧ e = RdE 0 0 b 12) ∨ (s.size ≤ 65536 ∧ ∃ c, c < s.size ∧ nu s.data.toList 0 = (true, c) ∧ e = RdE 0 0 c 12) ∨
      (s.size ≤ 65536 ∧ ∃ x y, nu s.data.toList 0 = (true, s.size) ∧ e = RdE x y 0 0 ∧ x < 18446744073709551616 ∧ y < 18446744073709551616 ∧ Is s.data.toList 0 (num x y) s.size)) := by
  by_cases hs : 65536 < s.size
  · exact (doc_long s hs W).mono fun e w' ⟨h1, h2⟩ => ⟨h2, .inl ⟨hs, h1⟩⟩
  have hs' : s.size ≤ 65536 := by omega
  rcases pair (x := nu s.data.toList 0) with ⟨c, k⟩ | ⟨b, k⟩
  · by_cases hc : c < s.size
    · exact (doc_more s hs' c hc k W).mono fun e w' ⟨h1, h2⟩ => ⟨h2, .inr (.inr (.inl ⟨hs', c, hc, k, h1⟩))⟩
    · have hcl : c = s.size := by
        have := nu_le k (Nat.zero_le _)
        simp at this; omega
      subst hcl
      exact (doc_ok s hs' k W).mono fun e w' ⟨x, y, h1, h2, h3⟩ => ⟨h3, .inr (.inr (.inr ⟨hs', x, y, k, h1, h2⟩))⟩
  · exact (doc_no s hs' b k W).mono fun e w' ⟨h1, h2⟩ => ⟨h2, .inr (.inl ⟨hs', b, k, h1⟩)⟩
end Go.Proofs.YtnghppgpdeghfaaGreatDoor
