/- Same; the awake calls. -/
import Derived.Test.YtnghppgpdeghfaaGreatDoorB16
namespace Go.Proofs.YtnghppgpdeghfaaGreatDoor
open Go.RowKit Go.Proofs.YtnghppgpdeghfaaGreatDoor.Fl Go.Proofs.YtnghppgpdeghfaaGreatDoor.Pt Go.Proofs.YtnghppgpdeghfaaGreatDoor.Tx

set_option linter.unusedSimpArgs false in
set_option maxRecDepth 100000 in
set_option maxHeartbeats 4000000 in
theorem same1_eq (x : Nat) (w : World) : Calls Tryz.prog 25 #[.float .f64 x, .float .f64 x] w fun e w' => e = .returned (.bool true) ∧ w' = w := by
  have t1 : ((x : Int) == (x : Int)) = true := by simp
  go_enter Tryz.func25, Tryz.ntmps25
  go_wp2_with fail
  go_ret
  exact ⟨rfl, rfl⟩
set_option linter.unusedSimpArgs false in
set_option maxRecDepth 100000 in
set_option maxHeartbeats 4000000 in
theorem same1_nan (x y : Nat) (hx : x < 18446744073709551616) (hy : y < 18446744073709551616) (hn : ¬ x = y) (nx : nan x = true) (ny : nan y = true) (w : World) : Calls Tryz.prog 25 #[.float .f64 x, .float .f64 y] w fun e w' => e = .returned (.bool true) ∧ w' = w := by
  have t1 : ((x : Int) == (y : Int)) = false := by simp; omega
  have h1 := ne_self hx
  have h2 := ne_self hy
  rw [nx] at h1
  rw [ny] at h2
  go_enter Tryz.func25, Tryz.ntmps25
  go_wp2_with fail
  go_ret
  exact ⟨rfl, rfl⟩
theorem same1 (x y : Nat) (hx : x < 18446744073709551616) (hy : y < 18446744073709551616) (h : eqv x y = true) (w : World) : Calls Tryz.prog 25 #[.float .f64 x, .float .f64 y] w fun e w' => e = .returned (.bool true) ∧ w' = w := by
  by_cases hn : x = y
  · rw [hn]; exact same1_eq y w
  · unfold eqv at h
    simp [hn] at h
    exact same1_nan x y hx hy hn h.1 h.2 w
set_option linter.unusedSimpArgs false in
set_option maxRecDepth 100000 in
set_option maxHeartbeats 4000000 in
theorem same_c (x y x2 y2 : Nat) (hx : x < 18446744073709551616) (hy : y < 18446744073709551616) (hx2 : x2 < 18446744073709551616) (hy2 : y2 < 18446744073709551616) (h1 : eqv x x2 = true) (h2 : eqv y y2 = true) (w : World) : Calls Tryz.prog 10 #[.complex .f64 x y, .complex .f64 x2 y2] w fun e w' => e = .returned (.bool true) ∧ w' = w := by
  go_enter Tryz.func10, Tryz.ntmps10
  have tok : True := trivial
  go_wp2_with (go_at_call 25; have _t := tok; clear tok; refine (same1 x x2 hx hx2 h1 _).mono ?_; rintro e w1 ⟨rfl, hw1⟩; rw [hw1]; clear hw1 w1)
  have tok : True := trivial
  go_wp2_with (go_at_call 25; have _t := tok; clear tok; refine (same1 y y2 hy hy2 h2 _).mono ?_; rintro e w1 ⟨rfl, hw1⟩; rw [hw1]; clear hw1 w1)
  go_ret
  exact ⟨rfl, rfl⟩
theorem fl_no_comma (z : Nat) (_hz : z < 18446744073709551616) : (44 : UInt8) ∉ fl z := by
  intro hm
  have key : ∀ c : UInt8, isH c = true ∨ isD c = true → c ≠ 44 := by
    intro c h e; rw [e] at h; revert h; decide
  unfold fl at hm
  split at hm
  · revert hm; decide
  · split at hm
    · split at hm <;> (revert hm; decide)
    · rcases List.mem_append.1 hm with h | h
      · split at h <;> (revert h; decide)
      · rcases List.mem_append.1 h with h | h
        · revert h; decide
        · rcases List.mem_append.1 h with h | h
          · exact key _ (.inl (hexD_isH _ _ h)) rfl
          · rcases List.mem_cons.1 h with h | h
            · revert h; decide
            · unfold Lib.itoa at h
              split at h
              · rcases List.mem_cons.1 h with h | h
                · revert h; decide
                · exact key _ (.inr (dd_isD _ _ h)) rfl
              · exact key _ (.inr (dd_isD _ _ h)) rfl
/-- A whole number's text has but one reading. -/
theorem num_inj {x y x2 y2 : Nat} (hx : x < 18446744073709551616) (hy : y < 18446744073709551616) (hx2 : x2 < 18446744073709551616) (hy2 : y2 < 18446744073709551616) (h : num x y = num x2 y2) : eqv x x2 = true ∧ eqv y y2 = true := by
  have n44 : ∀ z, z < 18446744073709551616 → (44 : UInt8) ∉ fl z := fl_no_comma
  unfold num at h
  have h1 := List.cons.inj h
  obtain ⟨e1, e2⟩ := split_at 44 (fl x) (fl x2) _ _ (n44 x hx) (n44 x2 hx2) h1.2
  exact ⟨fl_inj hx hx2 e1, fl_inj hy hy2 (List.append_cancel_right e2)⟩

def aw1 : List UInt8 := [40, 48, 120, 51, 112, 45, 50, 44, 45, 105, 110, 102, 41]
def aw2 : List UInt8 := [40, 48, 120, 50, 112, 48, 44, 48, 120, 48, 112, 48, 41]
theorem str_list (l : List UInt8) : (str l).data.toList = l := by simp [str]
theorem fo_closed {e : UInt8} {l : List UInt8} {a b c : Nat} (h1 : sf l a = (true, b)) (h2 : tk l [e] b = (true, c)) (h3 : Rt ((l.drop a).take (b - a))) : fo e l a = (true, c) := by
  unfold fo bd; rw [h1]; simp [h2, h3]
theorem fo_closed_no {e : UInt8} {l : List UInt8} {a b c : Nat} (h1 : sf l a = (true, b)) (h2 : tk l [e] b = (true, c)) (h3 : ¬ Rt ((l.drop a).take (b - a))) : fo e l a = (false, a) := by
  unfold fo bd; rw [h1]; simp [h2, h3]
theorem nu_aw1 : nu aw1 0 = (true, 13) :=
  nu_3 (b := 1) (c := 8) (by decide) (fo_closed (b := 7) (by decide) (by decide) ⟨4604930618986332160, by decide, by decide +kernel⟩) (fo_closed (b := 12) (by decide) (by decide) ⟨18442240474082181120, by decide, by decide +kernel⟩)
theorem cm_ne_two (b : Nat) : cm b ≠ 2 := by
  unfold cm
  split
  · decide
  · rename_i h
    have := (tz_spec (spm b) h).2
    omega
theorem nu_aw2 : nu aw2 0 = (false, 1) := by
  refine nu_2 (b := 1) (by decide) (fo_closed_no (b := 6) (c := 7) (by decide) (by decide) ?_)
  rintro ⟨y, hy, h⟩
  have h' : fl y = tok false [50] [48] := h.trans (by decide)
  obtain ⟨_, _, h2, _⟩ := tok_fl (by decide) h' hy
  have h3 : hexV 0 [50] = cm y := by rw [h2, hexV_hexD]
  exact cm_ne_two y (h3.symm.trans (by decide))
theorem read_aw1 (W : World) (hg : Gl W) : Calls Tryz.prog 7 #[.string (str aw1)] W fun e w' => ∃ y, e = RdE 4604930618986332160 y 0 0 ∧ But [] W w' := by
  refine (Read_any (str aw1) W hg).mono ?_
  rintro e w' ⟨hb, ⟨h, _⟩ | ⟨_, b, h, _⟩ | ⟨_, c, h1, h, _⟩ | ⟨_, x, y, h, h2, h3, h4, h5⟩⟩
  · exact absurd h (by decide)
  · rw [str_list, nu_aw1] at h; cases h
  · rw [str_list, nu_aw1] at h; cases h; exact absurd h1 (by decide)
  · rw [str_list] at h5
    have hw := whole_num h5 (by decide)
    have e0 : num x y = num 4604930618986332160 18442240474082181120 := hw.symm.trans (by decide +kernel)
    obtain ⟨e1, _⟩ := num_inj h3 h4 (by decide) (by decide) e0
    have nx : nan 4604930618986332160 = false := by decide
    unfold eqv at e1
    rw [nx, Bool.and_false, Bool.or_false] at e1
    rw [of_decide_eq_true e1] at h2
    exact ⟨y, h2, hb⟩
theorem read_aw2 (W : World) (hg : Gl W) : Calls Tryz.prog 7 #[.string (str aw2)] W fun e w' => e = RdE 0 0 1 12 ∧ But [] W w' := by
  refine (Read_any (str aw2) W hg).mono ?_
  rintro e w' ⟨hb, ⟨h, _⟩ | ⟨_, b, h, h2⟩ | ⟨_, c, h1, h, _⟩ | ⟨_, x, y, h, h2, h3, h4, h5⟩⟩
  · exact absurd h (by decide)
  · rw [str_list, nu_aw2] at h; cases h; exact ⟨h2, hb⟩
  · rw [str_list, nu_aw2] at h; cases h
  · rw [str_list, nu_aw2] at h; cases h
set_option linter.unusedSimpArgs false in
set_option maxRecDepth 100000 in
set_option maxHeartbeats 4000000 in
theorem awake_any (W : World) (hg : Gl W) : Calls Tryz.prog 9 #[] W fun e w' => e = .returned (.bool true) ∧ But [] W w' := by
  have o1 : FloatKind.f64.format.order 4604930618986332160 4604930618986332160 = some Ordering.eq := by decide +kernel
  have hn : num 4607182418800017408 0 = [40, 48, 120, 49, 112, 48, 44, 48, 120, 48, 112, 48, 41] := by decide +kernel
  have hq : ((str (num 4607182418800017408 0)).toList == [40, 48, 120, 49, 112, 48, 44, 48, 120, 48, 112, 48, 41]) = true := by rw [toList_str, hn]; rfl
  have k1 := read_aw1 W hg
  clear hn
  go_enter Tryz.func9, Tryz.ntmps9
  have tok : True := trivial
  go_wp2_with (go_at_call 7; have _t := tok; clear tok; refine k1.mono ?_; rintro e w1 ⟨y, rfl, hb1⟩; have hg1 := hg.keep hb1 (by simp))
  have tok : True := trivial
  go_wp2_with (go_at_call 7; have _t := tok; clear tok; refine (read_aw2 _ hg1).mono ?_; rintro e w2 ⟨rfl, hb2⟩; have hg2 := hg1.keep hb2 (by simp))
  have tok : True := trivial
  go_wp2_with (go_at_call 11; have _t := tok; clear tok; refine (write_any 4607182418800017408 0 (by decide) (by decide) _ hg2).mono ?_; rintro e w3 ⟨rfl, hb3⟩)
  go_ret
  exact ⟨rfl, (hb1.trans hb2).trans hb3⟩
end Go.Proofs.YtnghppgpdeghfaaGreatDoor
