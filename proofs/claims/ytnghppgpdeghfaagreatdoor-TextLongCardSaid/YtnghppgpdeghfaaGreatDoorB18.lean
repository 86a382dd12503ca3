/- quaverlaw27.TextReads: its walk. -/
import Derived.Test.YtnghppgpdeghfaaGreatDoorB17
namespace Go.Proofs.YtnghppgpdeghfaaGreatDoor
open Go.RowKit Go.Proofs.YtnghppgpdeghfaaGreatDoor.Fl Go.Proofs.YtnghppgpdeghfaaGreatDoor.Pt Go.Proofs.YtnghppgpdeghfaaGreatDoor.Tx

set_option linter.unusedSimpArgs false in
set_option maxRecDepth 100000 in
set_option maxHeartbeats 4000000 in
theorem law_fault (s : ByteArray) (b n : Nat) (hn : ((n : Int) != 0) = true) (W : World) (hg : Gl W) (k1 : Calls Tryz.prog 7 #[.string s] W fun e w' => e = RdE 0 0 b n ∧ But [] W w') (k2 : ∀ w, Calls Tryz.prog 8 #[.string s] w fun e w' => e = RdE 0 0 b n ∧ But [] w w') : Calls Tryz.prog 3 #[.string s] W fun e w' => e = .returned (.bool true) ∧ But [] W w' := by
  go_enter Tryz.func3, Tryz.ntmps3
  have tok : True := trivial
  go_wp2_with (go_at_call 7; have _t := tok; clear tok; refine k1.mono ?_; rintro e w1 ⟨rfl, hb1⟩; have hg1 := hg.keep hb1 (by simp))
  have tok : True := trivial
  go_wp2_with (go_at_call 8; have _t := tok; clear tok; refine (k2 _).mono ?_; rintro e w2 ⟨rfl, hb2⟩; have hg2 := hg1.keep hb2 (by simp))
  have tok : True := trivial
  go_wp2_with (go_at_call 9; have _t := tok; clear tok; refine (awake_any _ hg2).mono ?_; rintro e w3 ⟨rfl, hb3⟩)
  have tok : True := trivial
  go_wp2_with (go_at_call 10; have _t := tok; clear tok; refine (same_c 0 0 0 0 (by decide) (by decide) (by decide) (by decide) (by decide) (by decide) _).mono ?_; rintro e w4 ⟨rfl, hw4⟩; rw [hw4]; clear hw4 w4)
  go_ret
  exact ⟨rfl, (hb1.trans hb2).trans hb3⟩
set_option linter.unusedSimpArgs false in
set_option maxRecDepth 100000 in
set_option maxHeartbeats 4000000 in
theorem law_fine (s : ByteArray) (W : World) (hg : Gl W) (k1 : Calls Tryz.prog 7 #[.string s] W fun e w' => ∃ x y, e = RdE x y 0 0 ∧ (x < 18446744073709551616 ∧ y < 18446744073709551616 ∧ Is s.data.toList 0 (num x y) s.size) ∧ But [] W w') (k2 : ∀ w, Calls Tryz.prog 8 #[.string s] w fun e w' => ∃ x y, e = RdE x y 0 0 ∧ (x < 18446744073709551616 ∧ y < 18446744073709551616 ∧ Is s.data.toList 0 (num x y) s.size) ∧ But [] w w') : Calls Tryz.prog 3 #[.string s] W fun e w' => e = .returned (.bool true) ∧ But [] W w' := by
  go_enter Tryz.func3, Tryz.ntmps3
  have tok : True := trivial
  go_wp2_with (go_at_call 7; have _t := tok; clear tok; refine k1.mono ?_; rintro e w1 ⟨x, y, rfl, ⟨hx, hy, hi⟩, hb1⟩; have hg1 := hg.keep hb1 (by simp))
  have tok : True := trivial
  go_wp2_with (go_at_call 8; have _t := tok; clear tok; refine (k2 _).mono ?_; rintro e w2 ⟨x2, y2, rfl, ⟨hx2, hy2, hi2⟩, hb2⟩; have hg2 := hg1.keep hb2 (by simp))
  have e1 : s.data.toList = num x y := whole_num hi (by simp)
  have e2 : s.data.toList = num x2 y2 := whole_num hi2 (by simp)
  obtain ⟨q1, q2⟩ := num_inj hx hy hx2 hy2 (e1.symm.trans e2)
  have hq : ((str (num x y)).toList == s.toList) = true := by rw [seq_dec _ _ s e1]; simp
  clear e1 e2 hi hi2
  have tok : True := trivial
  go_wp2_with (go_at_call 9; have _t := tok; clear tok; refine (awake_any _ hg2).mono ?_; rintro e w3 ⟨rfl, hb3⟩; have hg3 := hg2.keep hb3 (by simp))
  have tok : True := trivial
  go_wp2_with (go_at_call 10; have _t := tok; clear tok; refine (same_c x y x2 y2 hx hy hx2 hy2 q1 q2 _).mono ?_; rintro e w4 ⟨rfl, hw4⟩; rw [hw4]; clear hw4 w4)
  have tok : True := trivial
  go_wp2_with (go_at_call 11; have _t := tok; clear tok; refine (write_any x y hx hy _ hg3).mono ?_; rintro e w5 ⟨rfl, hb5⟩)
  go_ret
  exact ⟨rfl, ((hb1.trans hb2).trans hb3).trans hb5⟩
/-- Every TextReads is true. -/
theorem textReads_any (s : ByteArray) (W : World) (hg : Gl W) : Calls Tryz.prog 3 #[.string s] W fun e w' => e = .returned (.bool true) ∧ But [] W w' := by
  by_cases hs : 65536 < s.size
  · refine law_fault s 0 2 rfl W hg ((Read_any s W hg).mono ?_) fun w => (Doc_any s w).mono ?_
    · rintro e w' ⟨hb, ⟨_, h⟩ | ⟨h, _⟩ | ⟨h, _⟩ | ⟨h, _⟩⟩
      · exact ⟨h, hb⟩
      all_goals omega
    · rintro e w' ⟨hb, ⟨_, h⟩ | ⟨h, _⟩ | ⟨h, _⟩ | ⟨h, _⟩⟩
      · exact ⟨h, hb⟩
      all_goals omega
  rcases pair (x := nu s.data.toList 0) with ⟨c, k⟩ | ⟨b, k⟩
  · by_cases hc : c < s.size
    · refine law_fault s c 12 rfl W hg ((Read_any s W hg).mono ?_) fun w => (Doc_any s w).mono ?_
      all_goals
        rintro e w' ⟨hb, ⟨h, _⟩ | ⟨_, b, h, _⟩ | ⟨_, d, _, h, h2⟩ | ⟨_, x, y, h, _⟩⟩
        · omega
        · rw [k] at h; cases h
        · rw [k] at h; cases h; exact ⟨h2, hb⟩
        · rw [k] at h; cases h; omega
    · have hcl : c = s.size := by
        have := nu_le k (Nat.zero_le _)
        simp at this; omega
      refine law_fine s W hg ((Read_any s W hg).mono ?_) fun w => (Doc_any s w).mono ?_
      all_goals
        rintro e w' ⟨hb, ⟨h, _⟩ | ⟨_, b, h, _⟩ | ⟨_, d, hd, h, h2⟩ | ⟨_, x, y, h, h2, h3⟩⟩
        · omega
        · rw [k] at h; cases h
        · rw [k] at h; cases h; omega
        · exact ⟨x, y, h2, h3, hb⟩
  · refine law_fault s b 12 rfl W hg ((Read_any s W hg).mono ?_) fun w => (Doc_any s w).mono ?_
    all_goals
      rintro e w' ⟨hb, ⟨h, _⟩ | ⟨_, d, h, h2⟩ | ⟨_, d, _, h, h2⟩ | ⟨_, x, y, h, _⟩⟩
      · omega
      · rw [k] at h; cases h; exact ⟨h2, hb⟩
      · rw [k] at h; cases h
      · rw [k] at h; cases h
end Go.Proofs.YtnghppgpdeghfaaGreatDoor
