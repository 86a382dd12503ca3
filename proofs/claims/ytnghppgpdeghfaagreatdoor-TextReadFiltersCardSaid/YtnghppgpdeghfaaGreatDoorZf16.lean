/- Same; the awake calls. quaverlaw27.TextReads: its walk. What the rows of the Text laws share: the listed variables, a start, what the condition gives. cplx.Of, cplx.Finite. The reference's Class, Finite. text.ReadZpk, text.ReadFilter where they are at fault. The reader's finite. -/
import Derived.Test.YtnghppgpdeghfaaGreatDoorZf15
import Derived.Test.YtnghppgpdeghfaaGreatDoorTie
import Derived.Test.YtnghppgpdeghfaaGreatDoorCards
import Derived.SevenTiedAt
import Derived.ProofKit
import Derived.LaidMore
import Derived.Lay
import Derived.OpenShut
import Derived.HandedShaped
import Derived.Shelf.Vars
import Derived.Stop.LaidErr
import Derived.Stop.Joined
import Derived.Lib.LaidTab
import Derived.Test.YtnghppgpdeghfaaGreatDoorZf9
namespace Go.Proofs.YtnghppgpdeghfaaGreatDoor
open Go.RowKit Go.Proofs.YtnghppgpdeghfaaGreatDoor.Fl Go.Proofs.YtnghppgpdeghfaaGreatDoor.Pt Go.Proofs.YtnghppgpdeghfaaGreatDoor.Tx

set_option linter.unusedSimpArgs false in
set_option maxRecDepth 100000 in
set_option maxHeartbeats 4000000 in
theorem same1_eq (x : Nat) (w : World) : Calls Tryz.prog 25 #[.float .f64 x, .float .f64 x] w fun e w' => e = .returned (.bool true) ∧ w' = w := by
  have t1 : ((x : Int) == (x : Int)) = true := by simp
  go_enter Tryz.func25, Tryz.ntmps25
  go_wp2_with fail
  go_ret
  exact ⟨rfl, rfl⟩
set_option linter.unusedSimpArgs false in
set_option maxRecDepth 100000 in
set_option maxHeartbeats 4000000 in
theorem same1_nan (x y : Nat) (hx : x < 18446744073709551616) (hy : y < 18446744073709551616) (hn : ¬ x = y) (nx : nan x = true) (ny : nan y = true) (w : World) : Calls Tryz.prog 25 #[.float .f64 x, .float .f64 y] w fun e w' => e = .returned (.bool true) ∧ w' = w := by
  have t1 : ((x : Int) == (y : Int)) = false := by simp; omega
  have h1 := ne_self hx
  have h2 := ne_self hy
  rw [nx] at h1
  rw [ny] at h2
  go_enter Tryz.func25, Tryz.ntmps25
  go_wp2_with fail
  go_ret
  exact ⟨rfl, rfl⟩
theorem same1 (x y : Nat) (hx : x < 18446744073709551616) (hy : y < 18446744073709551616) (h : eqv x y = true) (w : World) : Calls Tryz.prog 25 #[.float .f64 x, .float .f64 y] w fun e w' => e = .returned (.bool true) ∧ w' = w := by
  by_cases hn : x = y
  · rw [hn]; exact same1_eq y w
  · unfold eqv at h
    simp [hn] at h
    exact same1_nan x y hx hy hn h.1 h.2 w
set_option linter.unusedSimpArgs false in
set_option maxRecDepth 100000 in
set_option maxHeartbeats 4000000 in
theorem same_c (x y x2 y2 : Nat) (hx : x < 18446744073709551616) (hy : y < 18446744073709551616) (hx2 : x2 < 18446744073709551616) (hy2 : y2 < 18446744073709551616) (h1 : eqv x x2 = true) (h2 : eqv y y2 = true) (w : World) : Calls Tryz.prog 10 #[.complex .f64 x y, .complex .f64 x2 y2] w fun e w' => e = .returned (.bool true) ∧ w' = w := by
  go_enter Tryz.func10, Tryz.ntmps10
  have tok : True := trivial
  go_wp2_with (go_at_call 25; have _t := tok; clear tok; refine (same1 x x2 hx hx2 h1 _).mono ?_; rintro e w1 ⟨rfl, hw1⟩; rw [hw1]; clear hw1 w1)
  have tok : True := trivial
  go_wp2_with (go_at_call 25; have _t := tok; clear tok; refine (same1 y y2 hy hy2 h2 _).mono ?_; rintro e w1 ⟨rfl, hw1⟩; rw [hw1]; clear hw1 w1)
  go_ret
  exact ⟨rfl, rfl⟩
theorem fl_no_comma (z : Nat) (_hz : z < 18446744073709551616) : (44 : UInt8) ∉ fl z := by
  intro hm
  have key : ∀ c : UInt8, isH c = true ∨ isD c = true → c ≠ 44 := by
    intro c h e; rw [e] at h; revert h; decide
  unfold fl at hm
  split at hm
  · revert hm; decide
  · split at hm
    · split at hm <;> (revert hm; decide)
    · rcases List.mem_append.1 hm with h | h
      · split at h <;> (revert h; decide)
      · rcases List.mem_append.1 h with h | h
        · revert h; decide
        · rcases List.mem_append.1 h with h | h
          · exact key _ (.inl (hexD_isH _ _ h)) rfl
          · rcases List.mem_cons.1 h with h | h
            · revert h; decide
            · unfold Lib.itoa at h
              split at h
              · rcases List.mem_cons.1 h with h | h
                · revert h; decide
                · exact key _ (.inr (dd_isD _ _ h)) rfl
              · exact key _ (.inr (dd_isD _ _ h)) rfl
/-- A whole number's text has but one reading. -/
theorem num_inj {x y x2 y2 : Nat} (hx : x < 18446744073709551616) (hy : y < 18446744073709551616) (hx2 : x2 < 18446744073709551616) (hy2 : y2 < 18446744073709551616) (h : num x y = num x2 y2) : eqv x x2 = true ∧ eqv y y2 = true := by
  have n44 : ∀ z, z < 18446744073709551616 → (44 : UInt8) ∉ fl z := fl_no_comma
  unfold num at h
  have h1 := List.cons.inj h
  obtain ⟨e1, e2⟩ := split_at 44 (fl x) (fl x2) _ _ (n44 x hx) (n44 x2 hx2) h1.2
  exact ⟨fl_inj hx hx2 e1, fl_inj hy hy2 (List.append_cancel_right e2)⟩

def aw1 : List UInt8 := [40, 48, 120, 51, 112, 45, 50, 44, 45, 105, 110, 102, 41]
def aw2 : List UInt8 := [40, 48, 120, 50, 112, 48, 44, 48, 120, 48, 112, 48, 41]
theorem str_list (l : List UInt8) : (str l).data.toList = l := by simp [str]
theorem fo_closed {e : UInt8} {l : List UInt8} {a b c : Nat} (h1 : sf l a = (true, b)) (h2 : tk l [e] b = (true, c)) (h3 : Rt ((l.drop a).take (b - a))) : fo e l a = (true, c) := by
  unfold fo bd; rw [h1]; simp [h2, h3]
theorem fo_closed_no {e : UInt8} {l : List UInt8} {a b c : Nat} (h1 : sf l a = (true, b)) (h2 : tk l [e] b = (true, c)) (h3 : ¬ Rt ((l.drop a).take (b - a))) : fo e l a = (false, a) := by
  unfold fo bd; rw [h1]; simp [h2, h3]
theorem nu_aw1 : nu aw1 0 = (true, 13) :=
  nu_3 (b := 1) (c := 8) (by decide) (fo_closed (b := 7) (by decide) (by decide) ⟨4604930618986332160, by decide, by decide +kernel⟩) (fo_closed (b := 12) (by decide) (by decide) ⟨18442240474082181120, by decide, by decide +kernel⟩)
theorem cm_ne_two (b : Nat) : cm b ≠ 2 := by
  unfold cm
  split
  · decide
  · rename_i h
    have := (tz_spec (spm b) h).2
    omega
theorem nu_aw2 : nu aw2 0 = (false, 1) := by
  refine nu_2 (b := 1) (by decide) (fo_closed_no (b := 6) (c := 7) (by decide) (by decide) ?_)
  rintro ⟨y, hy, h⟩
  have h' : fl y = tok false [50] [48] := h.trans (by decide)
  obtain ⟨_, _, h2, _⟩ := tok_fl (by decide) h' hy
  have h3 : hexV 0 [50] = cm y := by rw [h2, hexV_hexD]
  exact cm_ne_two y (h3.symm.trans (by decide))
theorem read_aw1 (W : World) (hg : Gl W) : Calls Tryz.prog 7 #[.string (str aw1)] W fun e w' => ∃ y, e = RdE 4604930618986332160 y 0 0 ∧ But [] W w' := by
  refine (Read_any (str aw1) W hg).mono ?_
  rintro e w' ⟨hb, ⟨h, _⟩ | ⟨_, b, h, _⟩ | ⟨_, c, h1, h, _⟩ | ⟨_, x, y, h, h2, h3, h4, h5⟩⟩
  · exact absurd h (by decide)
  · rw [str_list, nu_aw1] at h; cases h
  · rw [str_list, nu_aw1] at h; cases h; exact absurd h1 (by decide)
  · rw [str_list] at h5
    have hw := whole_num h5 (by decide)
    have e0 : num x y = num 4604930618986332160 18442240474082181120 := hw.symm.trans (by decide +kernel)
    obtain ⟨e1, _⟩ := num_inj h3 h4 (by decide) (by decide) e0
    have nx : nan 4604930618986332160 = false := by decide
    unfold eqv at e1
    rw [nx, Bool.and_false, Bool.or_false] at e1
    rw [of_decide_eq_true e1] at h2
    exact ⟨y, h2, hb⟩
theorem read_aw2 (W : World) (hg : Gl W) : Calls Tryz.prog 7 #[.string (str aw2)] W fun e w' => e = RdE 0 0 1 12 ∧ But [] W w' := by
  refine (Read_any (str aw2) W hg).mono ?_
  rintro e w' ⟨hb, ⟨h, _⟩ | ⟨_, b, h, h2⟩ | ⟨_, c, h1, h, _⟩ | ⟨_, x, y, h, h2, h3, h4, h5⟩⟩
  · exact absurd h (by decide)
  · rw [str_list, nu_aw2] at h; cases h; exact ⟨h2, hb⟩
  · rw [str_list, nu_aw2] at h; cases h
  · rw [str_list, nu_aw2] at h; cases h
set_option linter.unusedSimpArgs false in
set_option maxRecDepth 100000 in
set_option maxHeartbeats 4000000 in
theorem awake_any (W : World) (hg : Gl W) : Calls Tryz.prog 9 #[] W fun e w' => e = .returned (.bool true) ∧ But [] W w' := by
  have o1 : FloatKind.f64.format.order 4604930618986332160 4604930618986332160 = some Ordering.eq := by decide +kernel
  have hn : num 4607182418800017408 0 = [40, 48, 120, 49, 112, 48, 44, 48, 120, 48, 112, 48, 41] := by decide +kernel
  have hq : ((str (num 4607182418800017408 0)).toList == [40, 48, 120, 49, 112, 48, 44, 48, 120, 48, 112, 48, 41]) = true := by rw [toList_str, hn]; rfl
  have k1 := read_aw1 W hg
  clear hn
  go_enter Tryz.func9, Tryz.ntmps9
  have tok : True := trivial
  go_wp2_with (go_at_call 7; have _t := tok; clear tok; refine k1.mono ?_; rintro e w1 ⟨y, rfl, hb1⟩; have hg1 := hg.keep hb1 (by simp))
  have tok : True := trivial
  go_wp2_with (go_at_call 7; have _t := tok; clear tok; refine (read_aw2 _ hg1).mono ?_; rintro e w2 ⟨rfl, hb2⟩; have hg2 := hg1.keep hb2 (by simp))
  have tok : True := trivial
  go_wp2_with (go_at_call 11; have _t := tok; clear tok; refine (write_any 4607182418800017408 0 (by decide) (by decide) _ hg2).mono ?_; rintro e w3 ⟨rfl, hb3⟩)
  go_ret
  exact ⟨rfl, (hb1.trans hb2).trans hb3⟩
end Go.Proofs.YtnghppgpdeghfaaGreatDoor
namespace Go.Proofs.YtnghppgpdeghfaaGreatDoor
open Go.RowKit Go.Proofs.YtnghppgpdeghfaaGreatDoor.Fl Go.Proofs.YtnghppgpdeghfaaGreatDoor.Pt Go.Proofs.YtnghppgpdeghfaaGreatDoor.Tx

set_option linter.unusedSimpArgs false in
set_option maxRecDepth 100000 in
set_option maxHeartbeats 4000000 in
theorem law_fault (s : ByteArray) (b n : Nat) (hn : ((n : Int) != 0) = true) (W : World) (hg : Gl W) (k1 : Calls Tryz.prog 7 #[.string s] W fun e w' => e = RdE 0 0 b n ∧ But [] W w') (k2 : ∀ w, Calls Tryz.prog 8 #[.string s] w fun e w' => e = RdE 0 0 b n ∧ But [] w w') : Calls Tryz.prog 3 #[.string s] W fun e w' => e = .returned (.bool true) ∧ But [] W w' := by
  go_enter Tryz.func3, Tryz.ntmps3
  have tok : True := trivial
  go_wp2_with (go_at_call 7; have _t := tok; clear tok; refine k1.mono ?_; rintro e w1 ⟨rfl, hb1⟩; have hg1 := hg.keep hb1 (by simp))
  have tok : True := trivial
  go_wp2_with (go_at_call 8; have _t := tok; clear tok; refine (k2 _).mono ?_; rintro e w2 ⟨rfl, hb2⟩; have hg2 := hg1.keep hb2 (by simp))
  have tok : True := trivial
  go_wp2_with (go_at_call 9; have _t := tok; clear tok; refine (awake_any _ hg2).mono ?_; rintro e w3 ⟨rfl, hb3⟩)
  have tok : True := trivial
  go_wp2_with (go_at_call 10; have _t := tok; clear tok; refine (same_c 0 0 0 0 (by decide) (by decide) (by decide) (by decide) (by decide) (by decide) _).mono ?_; rintro e w4 ⟨rfl, hw4⟩; rw [hw4]; clear hw4 w4)
  go_ret
  exact ⟨rfl, (hb1.trans hb2).trans hb3⟩
set_option linter.unusedSimpArgs false in
set_option maxRecDepth 100000 in
set_option maxHeartbeats 4000000 in
theorem law_fine (s : ByteArray) (W : World) (hg : Gl W) (k1 : Calls Tryz.prog 7 #[.string s] W fun e w' => ∃ x y, e = RdE x y 0 0 ∧ (x < 18446744073709551616 ∧ y < 18446744073709551616 ∧ Is s.data.toList 0 (num x y) s.size) ∧ But [] W w') (k2 : ∀ w, Calls Tryz.prog 8 #[.string s] w fun e w' => ∃ x y, e = RdE x y 0 0 ∧ (x < 18446744073709551616 ∧ y < 18446744073709551616 ∧ Is s.data.toList 0 (num x y) s.size) ∧ But [] w w') : Calls Tryz.prog 3 #[.string s] W fun e w' => e = .returned (.bool true) ∧ But [] W w' := by
  go_enter Tryz.func3, Tryz.ntmps3
  have tok : True := trivial
  go_wp2_with (go_at_call 7; have _t := tok; clear tok; refine k1.mono ?_; rintro e w1 ⟨x, y, rfl, ⟨hx, hy, hi⟩, hb1⟩; have hg1 := hg.keep hb1 (by simp))
  have tok : True := trivial
  go_wp2_with (go_at_call 8; have _t := tok; clear tok; refine (k2 _).mono ?_; rintro e w2 ⟨x2, y2, rfl, ⟨hx2, hy2, hi2⟩, hb2⟩; have hg2 := hg1.keep hb2 (by simp))
  have e1 : s.data.toList = num x y := whole_num hi (by simp)
  have e2 : s.data.toList = num x2 y2 := whole_num hi2 (by simp)
  obtain ⟨q1, q2⟩ := num_inj hx hy hx2 hy2 (e1.symm.trans e2)
  have hq : ((str (num x y)).toList == s.toList) = true := by rw [seq_dec _ _ s e1]; simp
  clear e1 e2 hi hi2
  have tok : True := trivial
  go_wp2_with (go_at_call 9; have _t := tok; clear tok; refine (awake_any _ hg2).mono ?_; rintro e w3 ⟨rfl, hb3⟩; have hg3 := hg2.keep hb3 (by simp))
  have tok : True := trivial
  go_wp2_with (go_at_call 10; have _t := tok; clear tok; refine (same_c x y x2 y2 hx hy hx2 hy2 q1 q2 _).mono ?_; rintro e w4 ⟨rfl, hw4⟩; rw [hw4]; clear hw4 w4)
  have tok : True := trivial
  go_wp2_with (go_at_call 11; have _t := tok; clear tok; refine (write_any x y hx hy _ hg3).mono ?_; rintro e w5 ⟨rfl, hb5⟩)
  go_ret
  exact ⟨rfl, ((hb1.trans hb2).trans hb3).trans hb5⟩
/-- Every TextReads is true. -/
theorem textReads_any (s : ByteArray) (W : World) (hg : Gl W) : Calls Tryz.prog 3 #[.string s] W fun e w' => e = .returned (.bool true) ∧ But [] W w' := by
  by_cases hs : 65536 < s.size
  · refine law_fault s 0 2 rfl W hg ((Read_any s W hg).mono ?_) fun w => (Doc_any s w).mono ?_
    · rintro e w' ⟨hb, ⟨_, h⟩ | ⟨h, _⟩ | ⟨h, _⟩ | ⟨h, _⟩⟩
      · exact ⟨h, hb⟩
      all_goals omega
    · rintro e w' ⟨hb, ⟨_, h⟩ | ⟨h, _⟩ | ⟨h, _⟩ | ⟨h, _⟩⟩
      · exact ⟨h, hb⟩
      all_goals omega
  rcases pair (x := nu s.data.toList 0) with ⟨c, k⟩ | ⟨b, k⟩
  · by_cases hc : c < s.size
    · refine law_fault s c 12 rfl W hg ((Read_any s W hg).mono ?_) fun w => (Doc_any s w).mono ?_
      all_goals
        rintro e w' ⟨hb, ⟨h, _⟩ | ⟨_, b, h, _⟩ | ⟨_, d, _, h, h2⟩ | ⟨_, x, y, h, _⟩⟩
        · omega
        · rw [k] at h; cases h
        · rw [k] at h; cases h; exact ⟨h2, hb⟩
        · rw [k] at h; cases h; omega
    · have hcl : c = s.size := by
        have := nu_le k (Nat.zero_le _)
        simp at this; omega
      refine law_fine s W hg ((Read_any s W hg).mono ?_) fun w => (Doc_any s w).mono ?_
      all_goals
        rintro e w' ⟨hb, ⟨h, _⟩ | ⟨_, b, h, _⟩ | ⟨_, d, hd, h, h2⟩ | ⟨_, x, y, h, h2, h3⟩⟩
        · omega
        · rw [k] at h; cases h
        · rw [k] at h; cases h; omega
        · exact ⟨x, y, h2, h3, hb⟩
  · refine law_fault s b 12 rfl W hg ((Read_any s W hg).mono ?_) fun w => (Doc_any s w).mono ?_
    all_goals
      rintro e w' ⟨hb, ⟨h, _⟩ | ⟨_, d, h, h2⟩ | ⟨_, d, _, h, h2⟩ | ⟨_, x, y, h, _⟩⟩
      · omega
      · rw [k] at h; cases h; exact ⟨h2, hb⟩
      · rw [k] at h; cases h
      · rw [k] at h; cases h
end Go.Proofs.YtnghppgpdeghfaaGreatDoor
namespace Go.Proofs.YtnghppgpdeghfaaGreatDoor
open Go.ChangeShapes Go.WideShapes Go.ChangeAt Go.RowKit

theorem own : ownKnob Tryz.prog.godebug = none := by kernel_rfl
/-- The listed variables. -/
def laid1 : List (String × DataW Unit) := [("math/bits.deBruijn32tab", Rows.laid_math_bits_deBruijn32tab), ("math/bits.deBruijn64tab", Rows.laid_math_bits_deBruijn64tab), ("internal/strconv.float32info", Rows.laid_internal_strconv_float32info), ("internal/strconv.float64info", Rows.laid_internal_strconv_float64info), ("internal/strconv.optimize", Rows.laid_internal_strconv_optimize), ("internal/strconv.powtab", Rows.laid_internal_strconv_powtab), ("internal/strconv.float64pow10", Rows.laid_internal_strconv_float64pow10), ("internal/strconv.float32pow10", Rows.laid_internal_strconv_float32pow10), ("internal/strconv.uint64pow10", Rows.laid_internal_strconv_uint64pow10), ("strconv.ErrRange", Rows.laid_strconv_ErrRange), ("strconv.ErrSyntax", Rows.laid_strconv_ErrSyntax), ("internal/strconv.leftcheats", Rows.laid_internal_strconv_leftcheats), ("internal/strconv.pow10Tab", Rows.laid_internal_strconv_pow10Tab)]
theorem laid_tail {P : Program} {x : String × DataW Unit} {r : List (String × DataW Unit)} {W : World} (h : laidMet P (x :: r) W) : laidMet P r W := by
  obtain ⟨n, d⟩ := x
  obtain ⟨ps, ⟨g, t, cs, fuel, p, q, _, _, _, _, hq, e⟩, hnd, hr⟩ := h
  rw [e] at hnd hr
  exact ⟨q, hq, (List.nodup_append.1 hnd).2.1, fun b off hm => hr b off (List.mem_append_right _ hm)⟩
theorem err_star : "*" ++ "errors.errorString" = "*errors.errorString" := by decide
theorem err_row (u : TypeId) (h : Tryz.prog.typeName? 3 u = some "*errors.errorString") : u = 197 :=
  typeName_ptr_named (nm := "errors.errorString") (by rw [err_star]; kernel_rfl) (by kernel_rfl) (by decide) u (by rw [err_star]; exact h)
theorem gl_of_laid {W : World} (h : laidMetH Tryz.prog laid1 W) (hsh : W.ShapedOpen Tryz.prog) : Gl W := by
  rw [MakeChecks.laidMetH_plain _ _ _ (by kernel_rfl)] at h
  have h0 : laidMet Tryz.prog [("math/bits.deBruijn32tab", Rows.laid_math_bits_deBruijn32tab), ("math/bits.deBruijn64tab", Rows.laid_math_bits_deBruijn64tab), ("internal/strconv.float32info", Rows.laid_internal_strconv_float32info), ("internal/strconv.float64info", Rows.laid_internal_strconv_float64info), ("internal/strconv.optimize", Rows.laid_internal_strconv_optimize), ("internal/strconv.powtab", Rows.laid_internal_strconv_powtab), ("internal/strconv.float64pow10", Rows.laid_internal_strconv_float64pow10), ("internal/strconv.float32pow10", Rows.laid_internal_strconv_float32pow10), ("internal/strconv.uint64pow10", Rows.laid_internal_strconv_uint64pow10), ("strconv.ErrRange", Rows.laid_strconv_ErrRange), ("strconv.ErrSyntax", Rows.laid_strconv_ErrSyntax), ("internal/strconv.leftcheats", Rows.laid_internal_strconv_leftcheats), ("internal/strconv.pow10Tab", Rows.laid_internal_strconv_pow10Tab)] W := h
  have h1 := laid_tail h0
  have h2 := laid_tail h1
  have h3 := laid_tail h2
  have h4 := laid_tail h3
  have h5 := laid_tail h4
  have h6 := laid_tail h5
  have h7 := laid_tail h6
  have h8 := laid_tail h7
  have h9 := laid_tail h8
  have h10 := laid_tail h9
  have h11 := laid_tail h10
  have e64 : (Rows.laid_math_bits_deBruijn64tab : DataW Unit) = Lib.tabData .u8 tab64 := by kernel_rfl
  have e10 : (Rows.laid_internal_strconv_uint64pow10 : DataW Unit) = Lib.tabData .u64 Lib.pow10Tab := by kernel_rfl
  rw [e64] at h1
  rw [e10] at h8
  refine ⟨Lib.tabIs_of_head (g := 1) (t := 114) (e := 5) (n := 64) (by kernel_rfl) (by kernel_rfl) Tryz.underlying114 Tryz.underlying5 (by kernel_rfl) (by kernel_rfl) h1,
    Lib.tabIs_of_head (g := 2) (t := 146) (e := 95) (n := 20) (by kernel_rfl) (by kernel_rfl) Tryz.underlying146 Tryz.underlying95 (by kernel_rfl) (by kernel_rfl) h8, ?_, ?_, ?_, ?_⟩
  · obtain ⟨a, s, hv, _⟩ := laid_sentinel (g := 3) (ti := 84) (tp := 197) (te := 199) (ts := 9) h10 (by kernel_rfl) (by kernel_rfl) Tryz.underlying84 err_row Tryz.underlying197 Tryz.underlying199 rfl rfl Tryz.underlying9 (by kernel_rfl) (by kernel_rfl)
    exact ⟨_, _, by simpa using World.var?_cell (show Tryz.prog.globalNamed "strconv.ErrSyntax" = some 3 by kernel_rfl) hv 0⟩
  · obtain ⟨a, s, hv, _⟩ := laid_sentinel (g := 4) (ti := 84) (tp := 197) (te := 199) (ts := 9) h9 (by kernel_rfl) (by kernel_rfl) Tryz.underlying84 err_row Tryz.underlying197 Tryz.underlying199 rfl rfl Tryz.underlying9 (by kernel_rfl) (by kernel_rfl)
    exact ⟨_, _, by simpa using World.var?_cell (show Tryz.prog.globalNamed "strconv.ErrRange" = some 4 by kernel_rfl) hv 0⟩
  · exact Go.Proofs.cell_of_shapedOpen_int (g := 5) (zero := #[.int .i64 0]) (t := 3) hsh (of_decide_eq_true (by kernel_rfl)) (by kernel_rfl) rfl (by kernel_rfl) (by kernel_rfl) Tryz.underlying3
  · obtain ⟨_, ⟨_, _, cs, _, _, _, _, _, hv, _⟩, _⟩ := h11
    unfold World.var? at hv
    rw [show Tryz.prog.globalNamed "internal/strconv.leftcheats" = some 14 by kernel_rfl] at hv
    simp only [Option.bind_some] at hv
    by_cases hl : 14 < W.heap.size
    · exact hl
    · rw [Array.getElem?_eq_none (by omega)] at hv; cases hv
end Go.Proofs.YtnghppgpdeghfaaGreatDoor
namespace Go.Proofs.YtnghppgpdeghfaaGreatDoor
open Go.RowKit Go.Proofs.YtnghppgpdeghfaaGreatDoor.Fl Go.Proofs.YtnghppgpdeghfaaGreatDoor.Pt Go.Proofs.YtnghppgpdeghfaaGreatDoor.Tx

theorem cls_le (b : Nat) : cls b ≤ 4 := by unfold cls; (repeat' split) <;> omega

/-- The kind of the greater part. -/
theorem cof_any (a b : Nat) (ha : a < 18446744073709551616) (hb : b < 18446744073709551616) (w : World) :
    Calls Tryz.prog 59 #[.complex .f64 a b] w fun e w' => e = .returned (.int .i64 (max (cls a : Int) (cls b))) ∧ w = w' := by
  go_enter Tryz.func59, Tryz.ntmps59
  go_wp2_with (go_at_call 66; refine (of_any _ (by assumption) _).mono ?_; rintro e w' ⟨rfl, rfl⟩)
  all_goals
    go_ret
    exact ⟨ri (by omega), rfl⟩

/-- Are both parts numbers? -/
def finB (a b : Nat) : Bool := decide (max (cls a : Int) (cls b) < 3)
theorem finB_eq (a b : Nat) : finB a b = (decide (a % SG < INF) && decide (b % SG < INF)) := by
  have h : ∀ c, (cls c : Int) < 3 ↔ c % SG < INF := by
    intro c; unfold cls; simp only [SG, ON, INF]; (repeat' split) <;> omega
  unfold finB
  rw [Bool.eq_iff_iff]
  simp only [decide_eq_true_eq, Bool.and_eq_true, ← h]
  omega

theorem finite_any (a b : Nat) (ha : a < 18446744073709551616) (hb : b < 18446744073709551616) (w : World) :
    Calls Tryz.prog 37 #[.complex .f64 a b] w fun e w' => e = .returned (.bool (finB a b)) ∧ w = w' := by
  go_enter Tryz.func37, Tryz.ntmps37
  go_wp2_with (go_at_call 59; refine (cof_any _ _ ha hb _).mono ?_; rintro e w' ⟨rfl, rfl⟩)
  go_ret
  exact ⟨rfl, rfl⟩

end Go.Proofs.YtnghppgpdeghfaaGreatDoor
namespace Go.Proofs.YtnghppgpdeghfaaGreatDoor
open Go.RowKit Go.Proofs.YtnghppgpdeghfaaGreatDoor.Fl Go.Proofs.YtnghppgpdeghfaaGreatDoor.Pt Go.Proofs.YtnghppgpdeghfaaGreatDoor.Tx

set_option linter.unusedSimpArgs false in
set_option maxRecDepth 100000 in
set_option maxHeartbeats 2000000 in
theorem rmag (b r : Nat) (hr : r = b % SG) (hb : b < 18446744073709551616) (w : World) : Calls Tryz.prog 103 #[.float .f64 b] w fun e w' => e = .returned (.int .u64 (r : Int)) ∧ w = w' := by
  have HR := Lib.hid hr
  clear hr
  go_enter Tryz.func103, Tryz.ntmps103
  go_wp2_with fail
  go_ret
  exact ⟨ri (by have h := HR.out; simp only [SG] at h; omega), rfl⟩
set_option linter.unusedSimpArgs false in
set_option maxRecDepth 100000 in
set_option maxHeartbeats 2000000 in
theorem rcls0 (b r : Nat) (hr : r = b % SG) (h : r = 0) (hb : b < 18446744073709551616) (w : World) : Calls Tryz.prog 81 #[.float .f64 b] w fun e w' => e = .returned (.int .i64 0) ∧ w = w' := by
  have hk := rmag b r hr hb
  have t1 : ((r : Int) == 0) = true := by simp; omega
  clear hr
  go_enter Tryz.func81, Tryz.ntmps81
  go_wp2_with (go_at_call 103; refine (hk _).mono ?_; rintro e w' ⟨rfl, rfl⟩)
  go_ret
  exact ⟨rfl, rfl⟩
set_option linter.unusedSimpArgs false in
set_option maxRecDepth 100000 in
set_option maxHeartbeats 2000000 in
theorem rcls1 (b r : Nat) (hr : r = b % SG) (h : r ≠ 0 ∧ r < 4503599627370496) (hb : b < 18446744073709551616) (w : World) : Calls Tryz.prog 81 #[.float .f64 b] w fun e w' => e = .returned (.int .i64 1) ∧ w = w' := by
  have hk := rmag b r hr hb
  have t1 : ((r : Int) == 0) = false := by simp; omega
  have u1 : decide ((r : Int) < 4503599627370496) = true := decide_eq_true (by omega)
  clear hr
  go_enter Tryz.func81, Tryz.ntmps81
  go_wp2_with (go_at_call 103; refine (hk _).mono ?_; rintro e w' ⟨rfl, rfl⟩)
  go_ret
  exact ⟨rfl, rfl⟩
set_option linter.unusedSimpArgs false in
set_option maxRecDepth 100000 in
set_option maxHeartbeats 2000000 in
theorem rcls2 (b r : Nat) (hr : r = b % SG) (h : 4503599627370496 ≤ r ∧ r < 9218868437227405312) (hb : b < 18446744073709551616) (w : World) : Calls Tryz.prog 81 #[.float .f64 b] w fun e w' => e = .returned (.int .i64 2) ∧ w = w' := by
  have hk := rmag b r hr hb
  have t1 : ((r : Int) == 0) = false := by simp; omega
  have u1 : decide ((r : Int) < 4503599627370496) = false := decide_eq_false (by omega)
  have u2 : decide ((r : Int) < 9218868437227405312) = true := decide_eq_true (by omega)
  clear hr
  go_enter Tryz.func81, Tryz.ntmps81
  go_wp2_with (go_at_call 103; refine (hk _).mono ?_; rintro e w' ⟨rfl, rfl⟩)
  go_ret
  exact ⟨rfl, rfl⟩
set_option linter.unusedSimpArgs false in
set_option maxRecDepth 100000 in
set_option maxHeartbeats 2000000 in
theorem rcls3 (b r : Nat) (hr : r = b % SG) (h : r = 9218868437227405312) (hb : b < 18446744073709551616) (w : World) : Calls Tryz.prog 81 #[.float .f64 b] w fun e w' => e = .returned (.int .i64 3) ∧ w = w' := by
  have hk := rmag b r hr hb
  have t1 : ((r : Int) == 0) = false := by simp; omega
  have u1 : decide ((r : Int) < 4503599627370496) = false := decide_eq_false (by omega)
  have u2 : decide ((r : Int) < 9218868437227405312) = false := decide_eq_false (by omega)
  have t2 : ((r : Int) == 9218868437227405312) = true := by simp; omega
  clear hr
  go_enter Tryz.func81, Tryz.ntmps81
  go_wp2_with (go_at_call 103; refine (hk _).mono ?_; rintro e w' ⟨rfl, rfl⟩)
  go_ret
  exact ⟨rfl, rfl⟩
set_option linter.unusedSimpArgs false in
set_option maxRecDepth 100000 in
set_option maxHeartbeats 2000000 in
theorem rcls4 (b r : Nat) (hr : r = b % SG) (h : 9218868437227405312 < r) (hb : b < 18446744073709551616) (w : World) : Calls Tryz.prog 81 #[.float .f64 b] w fun e w' => e = .returned (.int .i64 4) ∧ w = w' := by
  have hk := rmag b r hr hb
  have t1 : ((r : Int) == 0) = false := by simp; omega
  have u1 : decide ((r : Int) < 4503599627370496) = false := decide_eq_false (by omega)
  have u2 : decide ((r : Int) < 9218868437227405312) = false := decide_eq_false (by omega)
  have t2 : ((r : Int) == 9218868437227405312) = false := by simp; omega
  clear hr
  go_enter Tryz.func81, Tryz.ntmps81
  go_wp2_with (go_at_call 103; refine (hk _).mono ?_; rintro e w' ⟨rfl, rfl⟩)
  go_ret
  exact ⟨rfl, rfl⟩

theorem rcls_any (b : Nat) (hb : b < 18446744073709551616) (w : World) : Calls Tryz.prog 81 #[.float .f64 b] w fun e w' => e = .returned (.int .i64 (cls b)) ∧ w = w' := by
  obtain ⟨r, hr⟩ : ∃ r, r = b % SG := ⟨_, rfl⟩
  have hc : cls b = if r = 0 then 0 else if r < 4503599627370496 then 1 else if r < 9218868437227405312 then 2 else if r = 9218868437227405312 then 3 else 4 := by
    unfold cls; rw [← hr]
  rw [hc]
  by_cases h0 : r = 0
  · rw [if_pos h0]; exact rcls0 b r hr h0 hb w
  by_cases h1 : r < 4503599627370496
  · rw [if_neg h0, if_pos h1]; exact rcls1 b r hr ⟨h0, h1⟩ hb w
  by_cases h2 : r < 9218868437227405312
  · rw [if_neg h0, if_neg h1, if_pos h2]; exact rcls2 b r hr ⟨by omega, h2⟩ hb w
  by_cases h3 : r = 9218868437227405312
  · rw [if_neg h0, if_neg h1, if_neg h2, if_pos h3]; exact rcls3 b r hr h3 hb w
  · rw [if_neg h0, if_neg h1, if_neg h2, if_neg h3]; exact rcls4 b r hr (by omega) hb w
theorem rcof_any (a b : Nat) (ha : a < 18446744073709551616) (hb : b < 18446744073709551616) (w : World) :
    Calls Tryz.prog 64 #[.complex .f64 a b] w fun e w' => e = .returned (.int .i64 (max (cls a : Int) (cls b))) ∧ w = w' := by
  go_enter Tryz.func64, Tryz.ntmps64
  go_wp2_with (go_at_call 81; refine (rcls_any _ (by assumption) _).mono ?_; rintro e w' ⟨rfl, rfl⟩)
  all_goals
    go_ret
    first | exact ⟨rfl, rfl⟩ | exact ⟨ri (by omega), rfl⟩
theorem rfinite_any (a b : Nat) (ha : a < 18446744073709551616) (hb : b < 18446744073709551616) (w : World) :
    Calls Tryz.prog 50 #[.complex .f64 a b] w fun e w' => e = .returned (.bool (finB a b)) ∧ w = w' := by
  go_enter Tryz.func50, Tryz.ntmps50
  go_wp2_with (go_at_call 64; refine (rcof_any _ _ ha hb _).mono ?_; rintro e w' ⟨rfl, rfl⟩)
  go_ret
  exact ⟨rfl, rfl⟩
end Go.Proofs.YtnghppgpdeghfaaGreatDoor
namespace Go.Proofs.YtnghppgpdeghfaaGreatDoor
open Go.RowKit Go.Proofs.YtnghppgpdeghfaaGreatDoor.Fl Go.Proofs.YtnghppgpdeghfaaGreatDoor.Pt Go.Proofs.YtnghppgpdeghfaaGreatDoor.Tx

theorem results_cell_tmp2 {fn : Func} {p u v : Tmp} {ty : TypeId} (h : fn.results = #[.cell p ty, .tmp u, .tmp v]) (tmps : Array Value) (P : Program) (w : World) :
    (results fn tmps).run P w = ((asAddr (tmps.getD p undef)).run P w).andThen fun a w₁ => ((loadVar ty a).run P w₁).andThen fun x w₂ => .ok (.tuple #[x, tmps.getD u undef, tmps.getD v undef]) w₂ := by
  simp only [results, h]
  simp [Sem.run_bind, Result.andThen]
theorem a2_0 (W : World) (a b : Obj) : ((W.alloc a).alloc b).heap[W.heap.size]? = some a := by
  show ((W.heap.push a).push b)[_]? = _
  rw [push_lo _ _ _ (by simp), push_at _ _ _ rfl]
set_option linter.unusedSimpArgs false in
set_option maxRecDepth 100000 in
set_option maxHeartbeats 2000000 in
theorem Zpk_fault (s : ByteArray) (W : World) (b n : Nat) (hn : ((n : Int) != 0) = true) (hr : ∀ C w, But [] W w → C < w.heap.size → 15 ≤ C → Calls Tryz.prog 20 #[.string s, .func (Fn.func 27) #[] #[.pointer (some ⟨C, 0, none⟩)]] w fun e w' => e = RdA b n ∧ But [C] w w') (hg : Gl W) :
    Calls Tryz.prog 12 #[.string s] W fun e w' => e = .returned (.tuple #[.agg #[.slice none 0 0, .slice none 0 0, .complex .f64 0 0], .int .i64 (b : Int), .int .i64 (n : Int)]) ∧ But [] W w' := by
  have hmf : ∀ (fn : Fn) (first cap : Array Value) (w : World), (Instr.makeFunc fn first cap).run Tryz.prog w = .ok (.func fn first cap) w := fun _ _ _ _ => rfl
  have hsz := hg.size
  obtain ⟨U, hU⟩ : ∃ U, U = (W.alloc (.cells #[.slice none 0 0, .slice none 0 0, .complex .f64 0 0] 35)).alloc (.cells #[.slice none 0 0, .slice none 0 0, .complex .f64 0 0] 35) := ⟨_, rfl⟩
  have u0 : But [] W U := hU ▸ ((But.refl [] W).alloc _).alloc _
  have uS : U.heap.size = W.heap.size + 2 := by rw [hU]; simp
  have uR : U.heap[W.heap.size]? = some (.cells #[.slice none 0 0, .slice none 0 0, .complex .f64 0 0] 35 (0, 0)) := by rw [hU]; exact a2_0 _ _ _
  have hk := hr (W.heap.size + 1) U u0 (by omega) (by omega)
  clear hr
  go_enter Tryz.func12, Tryz.ntmps12
  go_wp2_with (go_at_call 20; rw [← hU]; refine hk.mono ?_; rintro e w1 ⟨rfl, hb⟩; have zR := hb.heap uR (by simp); have z0 : w1.cell? ⟨W.heap.size, 0, none⟩ = some (.slice none 0 0) := (by rw [cell_of_row w1 _ 0 _ _ _ zR]; rfl); have z1 : w1.cell? ⟨W.heap.size, 1, none⟩ = some (.slice none 0 0) := (by rw [cell_of_row w1 _ 1 _ _ _ zR]; rfl); have z2 : w1.cell? ⟨W.heap.size, 2, none⟩ = some (.complex .f64 0 0) := (by rw [cell_of_row w1 _ 2 _ _ _ zR]; rfl); have f0 : (w1).frozen? ⟨W.heap.size, 0, none⟩ = false := blk_free zR; have s0 := blk_set (w1) W.heap.size 0 _ 35 (.slice none 0 0) zR; have f1 : ((w1).setCell ⟨W.heap.size, 0, none⟩ (.slice none 0 0)).frozen? ⟨W.heap.size, 1, none⟩ = false := blk_free s0; have s1 := blk_set ((w1).setCell ⟨W.heap.size, 0, none⟩ (.slice none 0 0)) W.heap.size 1 _ 35 (.slice none 0 0) s0; have f2 : (((w1).setCell ⟨W.heap.size, 0, none⟩ (.slice none 0 0)).setCell ⟨W.heap.size, 1, none⟩ (.slice none 0 0)).frozen? ⟨W.heap.size, 2, none⟩ = false := blk_free s1; have s2 := blk_set (((w1).setCell ⟨W.heap.size, 0, none⟩ (.slice none 0 0)).setCell ⟨W.heap.size, 1, none⟩ (.slice none 0 0)) W.heap.size 2 _ 35 (.complex .f64 0 0) s1)
  refine bodyPost_ret (v := .tuple #[.agg #[.slice none 0 0, .slice none 0 0, .complex .f64 0 0], .int .i64 (b : Int), .int .i64 (n : Int)]) ?_ rfl ⟨rfl, ?_⟩
  · rw [results_cell_tmp2 (fn := Tryz.f12) rfl]
    simp only [List.getElem_toArray, Array.getD]
    simp [asAddr, Sem.run_pure, Result.andThen]
    rw [run_loadVar_row _ W.heap.size 35 35 _ _ _ s2 Tryz.underlying35 rfl (by kernel_rfl)]
    rfl
  · exact u0.then ((((hb.weak (qs' := [W.heap.size, W.heap.size + 1]) (by simp; omega)).setCell ⟨W.heap.size, 0, none⟩ (.slice none 0 0) (.inl (by simp))).setCell ⟨W.heap.size, 1, none⟩ (.slice none 0 0) (.inl (by simp))).setCell ⟨W.heap.size, 2, none⟩ (.complex .f64 0 0) (.inl (by simp))) (by simp; omega)

set_option linter.unusedSimpArgs false in
set_option maxRecDepth 100000 in
set_option maxHeartbeats 2000000 in
theorem Flt_fault (s : ByteArray) (W : World) (b n : Nat) (hn : ((n : Int) != 0) = true) (hr : ∀ C w, But [] W w → C < w.heap.size → 15 ≤ C → Calls Tryz.prog 20 #[.string s, .func (Fn.func 31) #[] #[.pointer (some ⟨C, 0, none⟩)]] w fun e w' => e = RdA b n ∧ But [C] w w') (hg : Gl W) :
    Calls Tryz.prog 13 #[.string s] W fun e w' => e = .returned (.tuple #[.agg #[.complex .f64 0 0, .slice none 0 0], .int .i64 (b : Int), .int .i64 (n : Int)]) ∧ But [] W w' := by
  have hmf : ∀ (fn : Fn) (first cap : Array Value) (w : World), (Instr.makeFunc fn first cap).run Tryz.prog w = .ok (.func fn first cap) w := fun _ _ _ _ => rfl
  have hsz := hg.size
  obtain ⟨U, hU⟩ : ∃ U, U = (W.alloc (.cells #[.complex .f64 0 0, .slice none 0 0] 40)).alloc (.cells #[.complex .f64 0 0, .slice none 0 0] 40) := ⟨_, rfl⟩
  have u0 : But [] W U := hU ▸ ((But.refl [] W).alloc _).alloc _
  have uS : U.heap.size = W.heap.size + 2 := by rw [hU]; simp
  have uR : U.heap[W.heap.size]? = some (.cells #[.complex .f64 0 0, .slice none 0 0] 40 (0, 0)) := by rw [hU]; exact a2_0 _ _ _
  have hk := hr (W.heap.size + 1) U u0 (by omega) (by omega)
  clear hr
  go_enter Tryz.func13, Tryz.ntmps13
  go_wp2_with (go_at_call 20; rw [← hU]; refine hk.mono ?_; rintro e w1 ⟨rfl, hb⟩; have zR := hb.heap uR (by simp); have z0 : w1.cell? ⟨W.heap.size, 0, none⟩ = some (.complex .f64 0 0) := (by rw [cell_of_row w1 _ 0 _ _ _ zR]; rfl); have z1 : w1.cell? ⟨W.heap.size, 1, none⟩ = some (.slice none 0 0) := (by rw [cell_of_row w1 _ 1 _ _ _ zR]; rfl); have f0 : (w1).frozen? ⟨W.heap.size, 0, none⟩ = false := blk_free zR; have s0 := blk_set (w1) W.heap.size 0 _ 40 (.complex .f64 0 0) zR; have f1 : ((w1).setCell ⟨W.heap.size, 0, none⟩ (.complex .f64 0 0)).frozen? ⟨W.heap.size, 1, none⟩ = false := blk_free s0; have s1 := blk_set ((w1).setCell ⟨W.heap.size, 0, none⟩ (.complex .f64 0 0)) W.heap.size 1 _ 40 (.slice none 0 0) s0)
  refine bodyPost_ret (v := .tuple #[.agg #[.complex .f64 0 0, .slice none 0 0], .int .i64 (b : Int), .int .i64 (n : Int)]) ?_ rfl ⟨rfl, ?_⟩
  · rw [results_cell_tmp2 (fn := Tryz.f13) rfl]
    simp only [List.getElem_toArray, Array.getD]
    simp [asAddr, Sem.run_pure, Result.andThen]
    rw [run_loadVar_row _ W.heap.size 40 40 _ _ _ s1 Tryz.underlying40 rfl (by kernel_rfl)]
    rfl
  · exact u0.then (((hb.weak (qs' := [W.heap.size, W.heap.size + 1]) (by simp; omega)).setCell ⟨W.heap.size, 0, none⟩ (.complex .f64 0 0) (.inl (by simp))).setCell ⟨W.heap.size, 1, none⟩ (.slice none 0 0) (.inl (by simp))) (by simp; omega)

set_option linter.unusedSimpArgs false in
set_option maxRecDepth 100000 in
set_option maxHeartbeats 2000000 in
theorem read_no27 (C : Nat) (s : ByteArray) (W : World) (hs : s.size ≤ 65536) (hC : C < W.heap.size) (b n : Nat) (hc : ∀ w, But [] W w → w.heap.size = W.heap.size + 3 → Rdr w (W.heap.size + 1 + 1) s 0 → Calls Tryz.prog 27 #[.pointer (some ⟨W.heap.size + 1 + 1, 0, none⟩), .pointer (some ⟨C, 0, none⟩)] w fun e w' => But [W.heap.size + 1 + 1, C] w w' ∧ e = Fa b n) :
    Calls Tryz.prog 20 #[.string s, .func (Fn.func 27) #[] #[.pointer (some ⟨C, 0, none⟩)]] W fun e w' => e = RdA b n ∧ But [C] W w' := by
  have hmf : ∀ (fn : Fn) (first cap : Array Value) (w : World), (Instr.makeFunc fn first cap).run Tryz.prog w = .ok (.func fn first cap) w := fun _ _ _ _ => rfl
  have t1 : decide ((s.size : Int) > 65536) = false := by simp; omega
  obtain ⟨U, hU⟩ : ∃ U, U = (((W.alloc (.cells #[.int .i64 0] 3)).alloc (.cells #[.int .i64 0] 23)).alloc (.cells #[.string s, .int .i64 0] 70)) := ⟨_, rfl⟩
  have u0 : But [] W U := hU ▸ (((But.refl [] W).alloc _).alloc _).alloc _
  have uS : U.heap.size = W.heap.size + 3 := by rw [hU]; simp
  have uA : U.heap[W.heap.size]? = some (.cells #[.int .i64 0] 3 (0, 0)) := by rw [hU]; exact at0 _ _ _ _
  have uE : U.heap[W.heap.size + 1]? = some (.cells #[.int .i64 0] 23 (0, 0)) := by rw [hU]; exact at1 _ _ _ _
  have uR : Rdr U (W.heap.size + 1 + 1) s 0 := by rw [hU]; exact at2 _ _ _ _
  have hcU := hc U u0 uS uR
  clear hc
  go_enter_defers Tryz.func20, Tryz.ntmps20
  go_wp2_with (go_at_call 27; rw [← hU]; refine hcU.mono ?_; rintro e w1 ⟨hb, he⟩; subst he; simp only [Fa])
  have hb' : But [C, W.heap.size + 1 + 1] U w1 := hb.weak (by simp; omega)
  have bA := hb'.heap uA (by simp; omega)
  have bE := hb'.heap uE (by simp; omega)
  refine leaves_cons (f := 46) (args := #[.pointer (some ⟨W.heap.size, 0, none⟩), .pointer (some ⟨W.heap.size + 1, 0, none⟩)]) (by simp) (by simp [go_sem]) ?_
  refine (catch_panicking W.heap.size (W.heap.size + 1) b n [] _ bA bE (by omega)).mono ?_
  rintro e u' w3 ⟨rfl, rfl, h3, zA, zE⟩
  have c3 : w3.cell? ⟨W.heap.size, 0, none⟩ = some (.int .i64 (b : Int)) := by rw [cell_of_row w3 _ 0 _ _ _ zA]; rfl
  have c4 : w3.cell? ⟨W.heap.size + 1, 0, none⟩ = some (.int .i64 (n : Int)) := by rw [cell_of_row w3 _ 0 _ _ _ zE]; rfl
  simp [Leaves, settle, results, Tryz.results20, go_sem, c3, c4]
  exact ((u0.weak (qs' := [C]) (by simp)).then hb' (by simp; omega)).then h3 (by simp; omega)

set_option linter.unusedSimpArgs false in
set_option maxRecDepth 100000 in
set_option maxHeartbeats 2000000 in
theorem read_no31 (C : Nat) (s : ByteArray) (W : World) (hs : s.size ≤ 65536) (hC : C < W.heap.size) (b n : Nat) (hc : ∀ w, But [] W w → w.heap.size = W.heap.size + 3 → Rdr w (W.heap.size + 1 + 1) s 0 → Calls Tryz.prog 31 #[.pointer (some ⟨W.heap.size + 1 + 1, 0, none⟩), .pointer (some ⟨C, 0, none⟩)] w fun e w' => But [W.heap.size + 1 + 1, C] w w' ∧ e = Fa b n) :
    Calls Tryz.prog 20 #[.string s, .func (Fn.func 31) #[] #[.pointer (some ⟨C, 0, none⟩)]] W fun e w' => e = RdA b n ∧ But [C] W w' := by
  have hmf : ∀ (fn : Fn) (first cap : Array Value) (w : World), (Instr.makeFunc fn first cap).run Tryz.prog w = .ok (.func fn first cap) w := fun _ _ _ _ => rfl
  have t1 : decide ((s.size : Int) > 65536) = false := by simp; omega
  obtain ⟨U, hU⟩ : ∃ U, U = (((W.alloc (.cells #[.int .i64 0] 3)).alloc (.cells #[.int .i64 0] 23)).alloc (.cells #[.string s, .int .i64 0] 70)) := ⟨_, rfl⟩
  have u0 : But [] W U := hU ▸ (((But.refl [] W).alloc _).alloc _).alloc _
  have uS : U.heap.size = W.heap.size + 3 := by rw [hU]; simp
  have uA : U.heap[W.heap.size]? = some (.cells #[.int .i64 0] 3 (0, 0)) := by rw [hU]; exact at0 _ _ _ _
  have uE : U.heap[W.heap.size + 1]? = some (.cells #[.int .i64 0] 23 (0, 0)) := by rw [hU]; exact at1 _ _ _ _
  have uR : Rdr U (W.heap.size + 1 + 1) s 0 := by rw [hU]; exact at2 _ _ _ _
  have hcU := hc U u0 uS uR
  clear hc
  go_enter_defers Tryz.func20, Tryz.ntmps20
  go_wp2_with (go_at_call 31; rw [← hU]; refine hcU.mono ?_; rintro e w1 ⟨hb, he⟩; subst he; simp only [Fa])
  have hb' : But [C, W.heap.size + 1 + 1] U w1 := hb.weak (by simp; omega)
  have bA := hb'.heap uA (by simp; omega)
  have bE := hb'.heap uE (by simp; omega)
  refine leaves_cons (f := 46) (args := #[.pointer (some ⟨W.heap.size, 0, none⟩), .pointer (some ⟨W.heap.size + 1, 0, none⟩)]) (by simp) (by simp [go_sem]) ?_
  refine (catch_panicking W.heap.size (W.heap.size + 1) b n [] _ bA bE (by omega)).mono ?_
  rintro e u' w3 ⟨rfl, rfl, h3, zA, zE⟩
  have c3 : w3.cell? ⟨W.heap.size, 0, none⟩ = some (.int .i64 (b : Int)) := by rw [cell_of_row w3 _ 0 _ _ _ zA]; rfl
  have c4 : w3.cell? ⟨W.heap.size + 1, 0, none⟩ = some (.int .i64 (n : Int)) := by rw [cell_of_row w3 _ 0 _ _ _ zE]; rfl
  simp [Leaves, settle, results, Tryz.results20, go_sem, c3, c4]
  exact ((u0.weak (qs' := [C]) (by simp)).then hb' (by simp; omega)).then h3 (by simp; omega)


set_option linter.unusedSimpArgs false in
set_option maxRecDepth 100000 in
set_option maxHeartbeats 2000000 in
theorem finite_no (R a c : Nat) (s : ByteArray) (hs : s.size ≤ 65536) (ha : a ≤ s.size) (hR : 15 ≤ R) (W : World) (h : Rdr W R s a) (hg : Gl W) (k : nu s.data.toList a = (false, c)) : Calls Tryz.prog 29 #[.pointer (some ⟨R, 0, none⟩)] W fun e w' => e = Fa c 12 ∧ But [R] W w' := by
  obtain ⟨c0, c1, cz⟩ := h.cells
  have hk := nu_no hs ha hR h hg k
  clear h hg cz
  go_enter Tryz.func29, Tryz.ntmps29
  go_wp2_with (go_at_call 22; refine hk.mono ?_; rintro e w1 ⟨he, hb⟩; subst he; simp only [Fa])
  exact ⟨rfl, rfl, hb⟩
def zpkT : List UInt8 := [122, 112, 107, 32]
def fltT : List UInt8 := [102, 105, 108, 116, 101, 114, 32]
set_option linter.unusedSimpArgs false in
set_option maxRecDepth 100000 in
set_option maxHeartbeats 2000000 in
theorem zpk1_no1 (R C b : Nat) (s : ByteArray) (hs : s.size ≤ 65536) (W : World) (h : Rdr W R s 0) (k : tk s.data.toList zpkT 0 = (false, b)) : Calls Tryz.prog 27 #[.pointer (some ⟨R, 0, none⟩), .pointer (some ⟨C, 0, none⟩)] W fun e w' => But [R, C] W w' ∧ e = Fa b (12 : Nat) := by
  have hk := take_no (w0 := W) zpkT (by decide) (by omega) (Nat.zero_le _) h (But.refl _ _) k
  unfold zpkT at hk
  clear h k
  go_enter Tryz.func27, Tryz.ntmps27
  go_wp2_with (go_at_call 28; refine hk.mono ?_; rintro e w1 ⟨he, hb⟩; subst he; simp only [Fa])
  exact ⟨rfl, hb.weak (by simp; omega), rfl⟩
set_option linter.unusedSimpArgs false in
set_option maxRecDepth 100000 in
set_option maxHeartbeats 2000000 in
theorem zpk1_no2 (R C b c : Nat) (s : ByteArray) (hs : s.size ≤ 65536) (hR : 15 ≤ R) (W : World) (h : Rdr W R s 0) (hg : Gl W) (k : tk s.data.toList zpkT 0 = (true, b)) (k2 : nu s.data.toList b = (false, c)) : Calls Tryz.prog 27 #[.pointer (some ⟨R, 0, none⟩), .pointer (some ⟨C, 0, none⟩)] W fun e w' => But [R, C] W w' ∧ e = Fa c (12 : Nat) := by
  have hk := take_ok (w0 := W) zpkT (by decide) (by omega) (Nat.zero_le _) h (But.refl _ _) k
  have hb : b ≤ s.size := by have := tk_le k (Nat.zero_le _); simpa using this
  unfold zpkT at hk
  have K2 := Lib.hid k2
  clear h k k2
  go_enter Tryz.func27, Tryz.ntmps27
  have tok : True := trivial
  go_wp2_with (go_at_call 28; have _t := tok; clear tok; refine hk.mono ?_; rintro e w1 ⟨rfl, hr, hb1⟩)
  have tok : True := trivial
  go_wp2_with (go_at_call 29; have _t := tok; clear tok; refine (finite_no R b c s hs hb hR _ hr (hg.keep hb1 (by simpa using hR)) K2.out).mono ?_; rintro e w2 ⟨he, hb2⟩; subst he; simp only [Fa])
  exact ⟨rfl, (hb1.trans hb2).weak (by simp; omega), rfl⟩
set_option linter.unusedSimpArgs false in
set_option maxRecDepth 100000 in
set_option maxHeartbeats 2000000 in
theorem flt1_no (R C b : Nat) (s : ByteArray) (hs : s.size ≤ 65536) (W : World) (h : Rdr W R s 0) (k : tk s.data.toList fltT 0 = (false, b)) : Calls Tryz.prog 31 #[.pointer (some ⟨R, 0, none⟩), .pointer (some ⟨C, 0, none⟩)] W fun e w' => But [R, C] W w' ∧ e = Fa b (12 : Nat) := by
  have hk := take_no (w0 := W) fltT (by decide) (by omega) (Nat.zero_le _) h (But.refl _ _) k
  unfold fltT at hk
  clear h k
  go_enter Tryz.func31, Tryz.ntmps31
  go_wp2_with (go_at_call 28; refine hk.mono ?_; rintro e w1 ⟨he, hb⟩; subst he; simp only [Fa])
  exact ⟨rfl, hb.weak (by simp; omega), rfl⟩
abbrev ZpE (b c : Nat) : Ending := .returned (.tuple #[.agg #[.slice none 0 0, .slice none 0 0, .complex .f64 0 0], .int .i64 (b : Int), .int .i64 (c : Int)])
abbrev FlE (b c : Nat) : Ending := .returned (.tuple #[.agg #[.complex .f64 0 0, .slice none 0 0], .int .i64 (b : Int), .int .i64 (c : Int)])
theorem Zpk_long (s : ByteArray) (W : World) (hs : 65536 < s.size) (hg : Gl W) : Calls Tryz.prog 12 #[.string s] W fun e w' => e = ZpE 0 2 ∧ But [] W w' :=
  Zpk_fault s W 0 2 rfl (fun C w _ _ _ => (read_long s w _ hs).mono fun e w' h => ⟨h.1, h.2.weak (by simp)⟩) hg
theorem Flt_long (s : ByteArray) (W : World) (hs : 65536 < s.size) (hg : Gl W) : Calls Tryz.prog 13 #[.string s] W fun e w' => e = FlE 0 2 ∧ But [] W w' :=
  Flt_fault s W 0 2 rfl (fun C w _ _ _ => (read_long s w _ hs).mono fun e w' h => ⟨h.1, h.2.weak (by simp)⟩) hg
theorem Zpk_bad1 (s : ByteArray) (W : World) (hs : s.size ≤ 65536) (b : Nat) (k : tk s.data.toList zpkT 0 = (false, b)) (hg : Gl W) : Calls Tryz.prog 12 #[.string s] W fun e w' => e = ZpE b 12 ∧ But [] W w' :=
  Zpk_fault s W b 12 rfl (fun C w _ hC _ => read_no27 C s w hs hC b 12 fun w2 _ _ hr => zpk1_no1 _ C b s hs w2 hr k) hg
theorem Zpk_bad2 (s : ByteArray) (W : World) (hs : s.size ≤ 65536) (b c : Nat) (k : tk s.data.toList zpkT 0 = (true, b)) (k2 : nu s.data.toList b = (false, c)) (hg : Gl W) : Calls Tryz.prog 12 #[.string s] W fun e w' => e = ZpE c 12 ∧ But [] W w' :=
  Zpk_fault s W c 12 rfl (fun C w hb hC hC2 => read_no27 C s w hs hC c 12 fun w2 hb2 _ hr => zpk1_no2 _ C b c s hs (by omega) w2 hr ((hg.keep hb (by simp)).keep hb2 (by simp)) k k2) hg
theorem Flt_bad (s : ByteArray) (W : World) (hs : s.size ≤ 65536) (b : Nat) (k : tk s.data.toList fltT 0 = (false, b)) (hg : Gl W) : Calls Tryz.prog 13 #[.string s] W fun e w' => e = FlE b 12 ∧ But [] W w' :=
  Flt_fault s W b 12 rfl (fun C w _ hC _ => read_no31 C s w hs hC b 12 fun w2 _ _ hr => flt1_no _ C b s hs w2 hr k) hg

end Go.Proofs.YtnghppgpdeghfaaGreatDoor
namespace Go.Proofs.YtnghppgpdeghfaaGreatDoor
open Go.RowKit Go.Proofs.YtnghppgpdeghfaaGreatDoor.Fl Go.Proofs.YtnghppgpdeghfaaGreatDoor.Pt Go.Proofs.YtnghppgpdeghfaaGreatDoor.Tx

/-- From a to c stands a number whose parts are finite. -/
def FiN (L : List UInt8) (a c : Nat) : Prop := ∃ x y, x < 18446744073709551616 ∧ y < 18446744073709551616 ∧ Is L a (num x y) c ∧ finB x y = true
theorem eqv_fin {x y : Nat} (h : eqv x y = true) : decide (x % SG < INF) = decide (y % SG < INF) := by
  unfold eqv at h
  simp only [Bool.or_eq_true, decide_eq_true_eq, Bool.and_eq_true] at h
  rcases h with h | ⟨h1, h2⟩
  · rw [h]
  · unfold nan at h1 h2
    simp only [decide_eq_true_eq] at h1 h2
    rw [decide_eq_false (by omega), decide_eq_false (by omega)]
theorem finB_eqv {x y x2 y2 : Nat} (h1 : eqv x x2 = true) (h2 : eqv y y2 = true) : finB x y = finB x2 y2 := by
  rw [finB_eq, finB_eq, eqv_fin h1, eqv_fin h2]
/-- Which of the two: told by the text. -/
theorem fin_told {L : List UInt8} {a c x y : Nat} (hx : x < 18446744073709551616) (hy : y < 18446744073709551616) (hi : Is L a (num x y) c) : (FiN L a c → finB x y = true) ∧ (¬ FiN L a c → finB x y = false) := by
  constructor
  · rintro ⟨x2, y2, hx2, hy2, hi2, hf⟩
    obtain ⟨q1, q2⟩ := num_inj hx hy hx2 hy2 (hi.piece.symm.trans hi2.piece)
    rw [finB_eqv q1 q2]; exact hf
  · intro h
    cases hf : finB x y
    · rfl
    · exact absurd ⟨x, y, hx, hy, hi, hf⟩ h
section
variable {R a c : Nat} {s : ByteArray} {w0 w : World}
set_option linter.unusedSimpArgs false in
set_option maxRecDepth 100000 in
set_option maxHeartbeats 2000000 in
theorem fi_ok (hs : s.size ≤ 65536) (ha : a ≤ s.size) (hR : 15 ≤ R) (h : Rdr w R s a) (hg : Gl w) (k : nu s.data.toList a = (true, c)) (hf : FiN s.data.toList a c) : Calls Tryz.prog 29 #[.pointer (some ⟨R, 0, none⟩)] w fun e w' => ∃ x y, e = .returned (.complex .f64 x y) ∧ (x < 18446744073709551616 ∧ y < 18446744073709551616 ∧ Is s.data.toList a (num x y) c ∧ finB x y = true) ∧ Rdr w' R s c ∧ But [R] w w' := by
  obtain ⟨c0, c1, cz⟩ := h.cells
  have hk := nu_ok hs ha hR h hg k
  have HF := Lib.hid hf
  clear h hg cz hf
  go_enter Tryz.func29, Tryz.ntmps29
  have tok : True := trivial
  go_wp2_with (go_at_call 22; have _t := tok; clear tok; refine hk.mono ?_; rintro e w1 ⟨x, y, rfl, ⟨hx, hy, hi⟩, hr, hb⟩; have hv := (fin_told hx hy hi).1 HF.out; have HI := Lib.hid hi; clear hi)
  have tok : True := trivial
  go_wp2_with (go_at_call 37; have _t := tok; clear tok; refine (finite_any x y hx hy _).mono ?_; rintro e w2 ⟨rfl, hw2⟩; rw [hv, ← hw2]; clear hw2 w2)
  go_ret
  exact ⟨x, y, rfl, ⟨hx, hy, HI.out, hv⟩, hr, hb⟩
set_option linter.unusedSimpArgs false in
set_option maxRecDepth 100000 in
set_option maxHeartbeats 2000000 in
theorem fi_nan (hs : s.size ≤ 65536) (ha : a ≤ s.size) (hR : 15 ≤ R) (h : Rdr w R s a) (hg : Gl w) (k : nu s.data.toList a = (true, c)) (hf : ¬ FiN s.data.toList a c) : Calls Tryz.prog 29 #[.pointer (some ⟨R, 0, none⟩)] w fun e w' => e = Fa a 5 ∧ But [R] w w' := by
  obtain ⟨c0, c1, cz⟩ := h.cells
  have hk := nu_ok hs ha hR h hg k
  have HF := Lib.hid hf
  clear h hg cz hf
  go_enter Tryz.func29, Tryz.ntmps29
  have tok : True := trivial
  go_wp2_with (go_at_call 22; have _t := tok; clear tok; refine hk.mono ?_; rintro e w1 ⟨x, y, rfl, ⟨hx, hy, hi⟩, hr, hb⟩; have hv := (fin_told hx hy hi).2 HF.out; clear hi)
  have tok : True := trivial
  go_wp2_with (go_at_call 37; have _t := tok; clear tok; refine (finite_any x y hx hy _).mono ?_; rintro e w2 ⟨rfl, hw2⟩; rw [hv, ← hw2]; clear hw2 w2)
  exact ⟨rfl, rfl, hb⟩
end
end Go.Proofs.YtnghppgpdeghfaaGreatDoor
