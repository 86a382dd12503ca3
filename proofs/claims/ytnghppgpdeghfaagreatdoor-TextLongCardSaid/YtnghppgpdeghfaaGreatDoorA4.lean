/- text.float, text.Write: a float's text, a number's. -/
import Derived.Test.YtnghppgpdeghfaaGreatDoorA3
namespace Go.Proofs.YtnghppgpdeghfaaGreatDoor
open Go.RowKit Go.Proofs.YtnghppgpdeghfaaGreatDoor.Fl Go.Proofs.YtnghppgpdeghfaaGreatDoor.Pt Go.Proofs.YtnghppgpdeghfaaGreatDoor.Tx

theorem But.grew (w : World) (k : Nat) (os : Array Obj) : But [] w (Sort.grow (w.drewN k) os) := (But.refl _ _).trans (But.of_below ⟨rfl, rfl, rfl, by simp [Sort.grow], fun i hi => by simp [Sort.grow]; exact Array.getElem?_append_left hi⟩)
theorem isnan_any (b : Nat) (hb : b < 18446744073709551616) (w : World) : Calls Tryz.prog 52 #[.float .f64 b] w fun e w' => e = .returned (.bool (nan b)) ∧ w = w' := by
  have h := ne_self hb
  go_enter Tryz.func52, Tryz.ntmps52
  go_wp2
  go_ret
  exact ⟨rfl, rfl⟩
theorem isinf_any (b : Nat) (hb : b < 18446744073709551616) (s : Int) (hs : s = 1 ∨ s = -1) (w : World) : Calls Tryz.prog 53 #[.float .f64 b, .int .i64 s] w fun e w' => e = .returned (.bool (if s = 1 then decide (b = INF) else decide (ng b = INF))) ∧ w = w' := by
  rcases hs with rfl | rfl
  · exact (isinf_pos b hb w).mono fun e w' h => by simpa using h
  · exact (isinf_neg b hb w).mono fun e w' h => by simpa using h
theorem itoa_len {z : Int} (h1 : -1074 ≤ z) (h2 : z ≤ 1023) : (Lib.itoa z).length ≤ 5 := by
  unfold Lib.itoa
  split
  · have := dd_len 3 z.natAbs (by omega)
    simp; omega
  · have := dd_len 3 z.toNat (by omega)
    omega
/-- A text's bytes, as the model has them. -/
def str (l : List UInt8) : ByteArray := ⟨l.toArray⟩

set_option linter.unusedSimpArgs false in
set_option maxRecDepth 100000 in
set_option maxHeartbeats 1000000 in
theorem float_any (b : Nat) (hb : b < 18446744073709551616) (w : World) (hg : Gl w) : Calls Tryz.prog 26 #[.float .f64 b] w fun e w' => e = .returned (.string (str (fl b))) ∧ But [] w w' := by
  by_cases hn : nan b = true
  · go_enter Tryz.func26, Tryz.ntmps26
    go_wp2_with (go_at_call 52; refine (isnan_any b hb _).mono ?_; rintro e w1 ⟨rfl, rfl⟩)
    go_ret
    exact ⟨by simp [fl, hn, str], But.refl _ _⟩
  · have hn' : nan b = false := by simpa using hn
    by_cases hi : b % SG = INF
    · by_cases hs : SG ≤ b
      · have e1 : decide (b = INF) = false := by simp only [SG, INF] at *; simp; omega
        have e2 : decide (ng b = INF) = true := by unfold ng; simp only [SG, INF] at *; simp [hs]; omega
        go_enter Tryz.func26, Tryz.ntmps26
        go_wp2_with (first | (go_at_call 52; refine (isnan_any b hb _).mono ?_; rintro e w1 ⟨rfl, rfl⟩) | (go_at_call 53; refine (isinf_any b hb _ (by simp) _).mono ?_; rintro e w1 ⟨rfl, rfl⟩))
        go_ret
        exact ⟨by simp [fl, hn', hi, hs, str], But.refl _ _⟩
      · have e1 : decide (b = INF) = true := by simp only [SG, INF] at *; simp; omega
        go_enter Tryz.func26, Tryz.ntmps26
        go_wp2_with (first | (go_at_call 52; refine (isnan_any b hb _).mono ?_; rintro e w1 ⟨rfl, rfl⟩) | (go_at_call 53; refine (isinf_any b hb _ (by simp) _).mono ?_; rintro e w1 ⟨rfl, rfl⟩))
        go_ret
        exact ⟨by simp [fl, hn', hi, hs, str], But.refl _ _⟩
    · have hf : fin b := ⟨hb, by unfold nan at hn'; simp at hn'; simp only [SG, INF] at *; omega⟩
      have e1 : decide (b = INF) = false := by simp only [SG, INF] at *; simp; omega
      have e2 : decide (ng b = INF) = false := by unfold ng; simp only [SG, INF] at *; simp; split <;> omega
      have hcl : ¬ 3 ≤ cls b := by
        have h2 := hf.2
        unfold cls
        simp only [SG, INF, ON] at *
        split
        · omega
        · split <;> omega
      have hsp : splitV b = .tuple #[.bool (sgb b), .int .u64 (spm b), .int .i64 (spe b), .int .i64 0] := by unfold splitV; rw [if_neg hcl]
      obtain ⟨p1, p2, p3, _, _⟩ := parse hf
      have hm64 : spm b < 18446744073709551616 := by rw [spm_mg]; have := mg_lt (b % SG); omega
      have hsb : (if SG ≤ b then ([45] : List UInt8) else []) = if sgb b then [45] else [] := by unfold sgb; simp
      have hfl := fl_fin hf
      rw [hsb] at hfl
      have hspe := spe_sh (b := b)
      by_cases h0 : spm b = 0
      · have g0 : ((spm b : Int) == 0) = true := by simp [h0]
        have ec : cm b = 0 := by unfold cm; rw [if_pos h0]
        have ee : ce b = 0 := by unfold ce; rw [if_pos h0]
        rw [ec, ee] at hfl
        have HFL := Lib.hid hfl
        have hl1 : (hexD 0).length ≤ 14 := hexD_len 13 0 (by omega)
        have hl2 := itoa_len (z := 0) (by omega) (by omega)
        have hm : spm b = 0 := h0
        clear hfl hspe p1 p2 p3 hm64
        generalize spe b = E at *
        rw [hm] at hsp g0
        clear hm h0 ec ee
        cases hs : sgb b
        all_goals
          rw [hs] at hsp HFL
          clear hs
          go_enter Tryz.func26, Tryz.ntmps26
          go_wp2_with (first | (go_at_call 52; refine (isnan_any b hb _).mono ?_; rintro e w1 ⟨rfl, hw1⟩; rw [← hw1]; clear hw1 w1) | (go_at_call 53; refine (isinf_any b hb _ (by simp) _).mono ?_; rintro e w1 ⟨rfl, hw1⟩; rw [← hw1]; clear hw1 w1) | (go_at_call 54; refine (split_any b hb _).mono ?_; rintro e w1 ⟨rfl, hw1⟩; rw [hsp, ← hw1]; clear hw1 w1) | (go_at_call 56; refine (fu_any 0 (by omega) _ hg).mono ?_; rintro e w1 ⟨rfl, hb1⟩; have hg1 := hg.keep hb1 (by simp)) | (go_at_call 57; refine (Tryz.strconv_Itoa 0 (by omega) (by omega) _ hg1.t10).mono ?_; rintro e w2 ⟨rfl, kk, os, rfl⟩))
          all_goals first | (exfalso; omega) | skip
          go_ret
          exact ⟨by rw [HFL.out]; exact congrArg (fun s => Ending.returned (.string s)) (ByteArray.ext (by simp [str])), hb1.trans (But.grew _ _ _)⟩
      · have g0 : ((spm b : Int) == 0) = false := by simp; omega
        have ec : cm b = spm b / 2 ^ tz (spm b) := by unfold cm; rw [if_neg h0]
        have ee : ce b = spe b + tz (spm b) := by unfold ce; rw [if_neg h0]
        have htz := tz_lt (by omega) hm64
        have HFL := Lib.hid hfl
        have hdv : ((spm b : Nat) : Int) / 2 ^ tz (spm b) = ((cm b : Nat) : Int) := by rw [ec]; simp
        generalize hm : spm b = m at *
        generalize hk : tz m = k at *
        generalize spe b = E at *
        generalize cm b = c at *
        generalize ce b = z at *
        have hw : wrap64 (E + (k : Int)) = z := by unfold wrap64; omega
        have hl1 : (hexD c).length ≤ 14 := hexD_len 13 c (by omega)
        have hl2 := itoa_len p2 p3
        clear hfl hspe ec ee
        cases hs : sgb b
        all_goals
          rw [hs] at hsp HFL
          clear hs
          go_enter Tryz.func26, Tryz.ntmps26
          go_wp2_with (first | (go_at_call 52; refine (isnan_any b hb _).mono ?_; rintro e w1 ⟨rfl, hw1⟩; rw [← hw1]; clear hw1 w1) | (go_at_call 53; refine (isinf_any b hb _ (by simp) _).mono ?_; rintro e w1 ⟨rfl, hw1⟩; rw [← hw1]; clear hw1 w1) | (go_at_call 54; refine (split_any b hb _).mono ?_; rintro e w1 ⟨rfl, hw1⟩; rw [hsp, ← hw1]; clear hw1 w1) | (go_at_call 55; refine (tz_any m (by omega) hm64 _ hg).mono ?_; rintro e w1 ⟨rfl, hw1⟩; rw [hk, hw1]; clear hw1 w1) | (go_at_call 56; refine (fu_any c (by omega) _ hg).mono ?_; rintro e w1 ⟨rfl, hb1⟩; have hg1 := hg.keep hb1 (by simp)) | (go_at_call 57; refine (Tryz.strconv_Itoa z (by omega) (by omega) _ hg1.t10).mono ?_; rintro e w2 ⟨rfl, kk, os, rfl⟩))
          all_goals first | (exfalso; omega) | skip
          go_ret
          exact ⟨by rw [HFL.out]; exact congrArg (fun s => Ending.returned (.string s)) (ByteArray.ext (by simp [str])), hb1.trans (But.grew _ _ _)⟩
end Go.Proofs.YtnghppgpdeghfaaGreatDoor
