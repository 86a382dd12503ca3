/- The reference's Float. -/
import Derived.Test.YtnghppgpdeghfaaGreatDoorZf9
namespace Go.Proofs.YtnghppgpdeghfaaGreatDoor
open Go.RowKit Go.Proofs.YtnghppgpdeghfaaGreatDoor.Fl Go.Proofs.YtnghppgpdeghfaaGreatDoor.Pt Go.Proofs.YtnghppgpdeghfaaGreatDoor.Tx

theorem wr_small {x : Int} (h1 : -10000 ≤ x) (h2 : x ≤ 10000) : wrap64 x = x := by unfold wrap64; omega
theorem tz_odd {k : Nat} (hk : k % 2 = 1) : ∀ j, tz (k * 2 ^ j) = j
  | 0 => by rw [tz, dif_pos (.inl (by simpa using hk))]
  | j + 1 => by
    have e : k * 2 ^ (j + 1) = 2 * (k * 2 ^ j) := by rw [Nat.pow_succ, ← Nat.mul_assoc]; omega
    have p : 0 < k * 2 ^ j := Nat.mul_pos (by omega) (Nat.two_pow_pos j)
    rw [tz, dif_neg (by omega), e, Nat.mul_div_cancel_left _ (by omega), tz_odd hk j]
theorem cm_odd {b k j : Nat} (hk : k % 2 = 1) (h : k * 2 ^ j = spm b) : cm b = k ∧ ce b = spe b + j := by
  have p : 0 < k * 2 ^ j := Nat.mul_pos (by omega) (Nat.two_pow_pos j)
  have h0 : spm b ≠ 0 := by omega
  unfold cm ce
  rw [if_neg h0, if_neg h0, ← h, tz_odd hk, Nat.mul_div_cancel _ (Nat.two_pow_pos j)]
  exact ⟨rfl, rfl⟩
set_option linter.unusedSimpArgs false in
set_option maxRecDepth 100000 in
set_option maxHeartbeats 2000000 in
theorem rfl_nann (b r : Nat) (hb : b < 18446744073709551616) (hr : r = b % SG) (W : World) (hs : SG ≤ b) (hn : nan b = true) : Calls Tryz.prog 102 #[.float .f64 b] W fun e w' => e = .returned (.string (str (fl b))) ∧ But [] W w' := by
  obtain ⟨z, hw, hz⟩ : ∃ z : Int, IntKind.u64.wrap ((b : Int) * 2) = z ∧ z / 2 = (r : Int) := ⟨2 * (r : Int), by rw [IntKind.wrap_u64]; simp only [SG] at hr; omega, by omega⟩
  have t1 : ((b : Int) / 9223372036854775808 == 1) = true := by simp only [SG] at *; simp; omega
  have t2 : decide ((9218868437227405312 : Int) < (r : Int)) = true := by unfold nan at hn; simp at hn; simp only [SG, INF] at *; simp; omega
  have hF := Lib.hid (show fl b = [110, 97, 110] by unfold fl; rw [if_pos hn])
  clear hr hn hs
  go_enter Tryz.func102, Tryz.ntmps102
  go_wp2_with fail
  go_ret
  exact ⟨by rw [hF.out]; rfl, But.refl _ _⟩
set_option linter.unusedSimpArgs false in
set_option maxRecDepth 100000 in
set_option maxHeartbeats 2000000 in
theorem rfl_infn (b r : Nat) (hb : b < 18446744073709551616) (hr : r = b % SG) (W : World) (hs : SG ≤ b) (hn : r = INF) : Calls Tryz.prog 102 #[.float .f64 b] W fun e w' => e = .returned (.string (str (fl b))) ∧ But [] W w' := by
  obtain ⟨z, hw, hz⟩ : ∃ z : Int, IntKind.u64.wrap ((b : Int) * 2) = z ∧ z / 2 = (r : Int) := ⟨2 * (r : Int), by rw [IntKind.wrap_u64]; simp only [SG] at hr; omega, by omega⟩
  have t1 : ((b : Int) / 9223372036854775808 == 1) = true := by simp only [SG] at *; simp; omega
  have t2 : decide ((9218868437227405312 : Int) < (r : Int)) = false := by simp only [SG, INF] at *; simp; omega
  have t3 : ((r : Int) == 9218868437227405312) = true := by simp only [SG, INF] at *; simp; omega
  have hF := Lib.hid (show fl b = [45, 105, 110, 102] by unfold fl; rw [if_neg (by unfold nan; simp; omega), if_pos (by omega), if_pos hs])
  clear hr hn hs
  go_enter Tryz.func102, Tryz.ntmps102
  go_wp2_with fail
  go_ret
  exact ⟨by rw [hF.out]; exact congrArg (fun s => Ending.returned (.string s)) (ByteArray.ext (by simp [str])), But.refl _ _⟩
set_option linter.unusedSimpArgs false in
set_option maxRecDepth 100000 in
set_option maxHeartbeats 2000000 in
theorem rfl_zeron (b r : Nat) (hb : b < 18446744073709551616) (hr : r = b % SG) (W : World) (hs : SG ≤ b) (hn : r = 0) : Calls Tryz.prog 102 #[.float .f64 b] W fun e w' => e = .returned (.string (str (fl b))) ∧ But [] W w' := by
  obtain ⟨z, hw, hz⟩ : ∃ z : Int, IntKind.u64.wrap ((b : Int) * 2) = z ∧ z / 2 = (r : Int) := ⟨2 * (r : Int), by rw [IntKind.wrap_u64]; simp only [SG] at hr; omega, by omega⟩
  have t1 : ((b : Int) / 9223372036854775808 == 1) = true := by simp only [SG] at *; simp; omega
  have t2 : decide ((9218868437227405312 : Int) < (r : Int)) = false := by simp; omega
  have t3 : ((r : Int) == 9218868437227405312) = false := by simp; omega
  have t4 : ((r : Int) == 0) = true := by simp; omega
  have hF := Lib.hid (show fl b = [45, 48, 120, 48, 112, 48] by
    obtain rfl : b = 9223372036854775808 := by simp only [SG] at *; omega
    decide +kernel)
  clear hr hn hs
  go_enter Tryz.func102, Tryz.ntmps102
  go_wp2_with fail
  go_ret
  exact ⟨by rw [hF.out]; exact congrArg (fun s => Ending.returned (.string s)) (ByteArray.ext (by simp [str])), But.refl _ _⟩
set_option linter.unusedSimpArgs false in
set_option maxRecDepth 100000 in
set_option maxHeartbeats 2000000 in
theorem rfl_nanp (b r : Nat) (hb : b < 18446744073709551616) (hr : r = b % SG) (W : World) (hs : ¬ SG ≤ b) (hn : nan b = true) : Calls Tryz.prog 102 #[.float .f64 b] W fun e w' => e = .returned (.string (str (fl b))) ∧ But [] W w' := by
  obtain ⟨z, hw, hz⟩ : ∃ z : Int, IntKind.u64.wrap ((b : Int) * 2) = z ∧ z / 2 = (r : Int) := ⟨2 * (r : Int), by rw [IntKind.wrap_u64]; simp only [SG] at hr; omega, by omega⟩
  have t1 : ((b : Int) / 9223372036854775808 == 1) = false := by simp only [SG] at *; simp; omega
  have t2 : decide ((9218868437227405312 : Int) < (r : Int)) = true := by unfold nan at hn; simp at hn; simp only [SG, INF] at *; simp; omega
  have hF := Lib.hid (show fl b = [110, 97, 110] by unfold fl; rw [if_pos hn])
  clear hr hn hs
  go_enter Tryz.func102, Tryz.ntmps102
  go_wp2_with fail
  go_ret
  exact ⟨by rw [hF.out]; rfl, But.refl _ _⟩
set_option linter.unusedSimpArgs false in
set_option maxRecDepth 100000 in
set_option maxHeartbeats 2000000 in
theorem rfl_infp (b r : Nat) (hb : b < 18446744073709551616) (hr : r = b % SG) (W : World) (hs : ¬ SG ≤ b) (hn : r = INF) : Calls Tryz.prog 102 #[.float .f64 b] W fun e w' => e = .returned (.string (str (fl b))) ∧ But [] W w' := by
  obtain ⟨z, hw, hz⟩ : ∃ z : Int, IntKind.u64.wrap ((b : Int) * 2) = z ∧ z / 2 = (r : Int) := ⟨2 * (r : Int), by rw [IntKind.wrap_u64]; simp only [SG] at hr; omega, by omega⟩
  have t1 : ((b : Int) / 9223372036854775808 == 1) = false := by simp only [SG] at *; simp; omega
  have t2 : decide ((9218868437227405312 : Int) < (r : Int)) = false := by simp only [SG, INF] at *; simp; omega
  have t3 : ((r : Int) == 9218868437227405312) = true := by simp only [SG, INF] at *; simp; omega
  have hF := Lib.hid (show fl b = [105, 110, 102] by unfold fl; rw [if_neg (by unfold nan; simp; omega), if_pos (by omega), if_neg hs])
  clear hr hn hs
  go_enter Tryz.func102, Tryz.ntmps102
  go_wp2_with fail
  go_ret
  exact ⟨by rw [hF.out]; exact congrArg (fun s => Ending.returned (.string s)) (ByteArray.ext (by simp [str])), But.refl _ _⟩
set_option linter.unusedSimpArgs false in
set_option maxRecDepth 100000 in
set_option maxHeartbeats 2000000 in
theorem rfl_zerop (b r : Nat) (hb : b < 18446744073709551616) (hr : r = b % SG) (W : World) (hs : ¬ SG ≤ b) (hn : r = 0) : Calls Tryz.prog 102 #[.float .f64 b] W fun e w' => e = .returned (.string (str (fl b))) ∧ But [] W w' := by
  obtain ⟨z, hw, hz⟩ : ∃ z : Int, IntKind.u64.wrap ((b : Int) * 2) = z ∧ z / 2 = (r : Int) := ⟨2 * (r : Int), by rw [IntKind.wrap_u64]; simp only [SG] at hr; omega, by omega⟩
  have t1 : ((b : Int) / 9223372036854775808 == 1) = false := by simp only [SG] at *; simp; omega
  have t2 : decide ((9218868437227405312 : Int) < (r : Int)) = false := by simp; omega
  have t3 : ((r : Int) == 9218868437227405312) = false := by simp; omega
  have t4 : ((r : Int) == 0) = true := by simp; omega
  have hF := Lib.hid (show fl b = [48, 120, 48, 112, 48] by
    obtain rfl : b = 0 := by simp only [SG] at *; omega
    decide +kernel)
  clear hr hn hs
  go_enter Tryz.func102, Tryz.ntmps102
  go_wp2_with fail
  go_ret
  exact ⟨by rw [hF.out]; exact congrArg (fun s => Ending.returned (.string s)) (ByteArray.ext (by simp [str])), But.refl _ _⟩
set_option linter.unusedSimpArgs false in
set_option maxRecDepth 100000 in
set_option maxHeartbeats 2000000 in
theorem rfl_finns (b r : Nat) (hb : b < 18446744073709551616) (hr : r = b % SG) (W : World) (hs : SG ≤ b) (f p M : Nat) (E : Int) (hfp : f = r % 4503599627370496) (hpp : p = r / 4503599627370496) (hp : p = 0) (hM : M = f) (hE : E = -1074) (hrI : r < INF) (h0 : r ≠ 0) : Calls Tryz.prog 102 #[.float .f64 b] W fun e w' => e = .returned (.string (str (fl b))) ∧ But [] W w' := by
  have t1 : ((b : Int) / 9223372036854775808 == 1) = true := by simp only [SG] at *; simp; omega
  have hp2 : p ≤ 2046 := by clear hE hM; simp only [INF] at hrI; omega
  have t2 : decide ((9218868437227405312 : Int) < (r : Int)) = false := by simp only [SG, INF] at *; simp; omega
  have t3 : ((r : Int) == 9218868437227405312) = false := by simp only [SG, INF] at *; simp; omega
  have t4 : ((r : Int) == 0) = false := by simp; omega
  have t5 : (r : Int) % 4503599627370496 = (f : Int) := by omega
  have t6 : (r : Int) / 4503599627370496 = (p : Int) := by omega
  have hE1 : -1074 ≤ E ∧ E ≤ 1000 := by omega
  have hM0 : 0 < M := by omega
  have hM1 : M < 9007199254740992 := by omega
  have hq : b % 4503599627370496 = r % 4503599627370496 := by simp only [SG] at hr; omega
  have hsm : spm b = M := by unfold spm; simp only [ON]; rw [← hr, if_pos (by omega)]; omega
  have hse : spe b = E := by unfold spe; simp only [ON]; rw [← hr, if_pos (by omega)]; omega
  have hfin : fin b := ⟨hb, by omega⟩
  have HF := Lib.hid (show ∀ k j : Nat, k % 2 = 1 → k * 2 ^ j = M → fl b = [45] ++ ([48, 120] ++ (hexD k ++ 112 :: Lib.itoa (E + (j : Int)))) from fun k j hk hj => by
    obtain ⟨c1, c2⟩ := cm_odd hk (hj.trans hsm.symm)
    rw [fl_fin hfin, c1, c2, hse, if_pos hs])
  have hMi : (M : Int) = (f : Int) := by omega
  have q1 : -10000 ≤ (p : Int) - 1074 := by omega
  have q2 : (p : Int) - 1074 ≤ 10000 := by omega
  have q5 : -10000 ≤ (p : Int) := by omega
  have q6 : (p : Int) ≤ 10000 := by omega
  have q7 : (p : Int) - 1074 = E := by omega
  have q8 : decide (0 < (p : Int)) = false := by simp; omega
  obtain ⟨z, hw, hz⟩ : ∃ z : Int, IntKind.u64.wrap ((b : Int) * 2) = z ∧ z / 2 = (r : Int) := ⟨2 * (r : Int), by rw [IntKind.wrap_u64]; simp only [SG] at hr; omega, by omega⟩
  have t7 : decide (0 < wrap64 (p : Int)) = false := (congrArg (fun x : Int => decide (0 < x)) (wr_small q5 q6)).trans q8
  have HW := Lib.hid (show wrap64 (wrap64 (p : Int) - 1074) = E from (congrArg (fun x : Int => wrap64 (x - 1074)) (wr_small q5 q6)).trans ((wr_small q1 q2).trans q7))
  clear q1 q2 q5 q6 q7 q8
  clear hp2 hq hsm hse hfin hr hfp hpp hp hM hE hrI h0 hs
  go_enter Tryz.func102, Tryz.ntmps102
  go_wp2_with fail
  go_loopw [5, 6] (fun m e wr => ∃ k j : Nat, m = .int .u64 (k : Int) ∧ e = .int .i64 (E + (j : Int)) ∧ k * 2 ^ j = M ∧ j ≤ 64 ∧ 0 < k ∧ But [] W wr) (fun m _ _ => (intOf m).toNat)
  case atStart => exact ⟨M, 0, congrArg (Value.int .u64) (by first | exact hMi.symm | exact (hMi.trans t5.symm).symm | (clear hw hz t7; omega)), congrArg (Value.int .i64) (by rw [Int.natCast_zero, Int.add_zero]; exact HW.out), by simp, by decide, hM0, But.refl _ _⟩
  case round =>
    obtain ⟨k, j, rfl, rfl, hk, hj, k0, hbw⟩ := hrel
    clear hw hz t7
    have hj1 : j < 53 := by
      have h1 : 2 ^ j ≤ M := by rw [← hk]; exact Nat.le_mul_of_pos_left _ k0
      exact (Nat.pow_lt_pow_iff_right (a := 2) (by omega)).1 (Nat.lt_of_le_of_lt h1 (Nat.lt_of_lt_of_eq hM1 (by decide)))
    have hkM : k ≤ M := by rw [← hk]; exact Nat.le_mul_of_pos_right _ (Nat.two_pow_pos j)
    have hk53 : k < 9007199254740992 := by omega
    by_cases ho : k % 2 = 1
    · have t8 : ((k : Int) % 2 == 0) = false := by simp; omega
      have t9 : (k % 2 == 0) = false := by simp; omega
      have hF := Lib.hid (HF.out k j ho hk)
      have hy : -1074 ≤ E + (j : Int) ∧ E + (j : Int) ≤ 1100 := by omega
      clear hk ho HF hkM hMi
      generalize E + (j : Int) = y at *
      have hl1 : (hexD k).length ≤ 20 := hexD_len 19 k (by omega)
      have hl2 : (Lib.decDigits y.natAbs).length ≤ 20 := dd_len 19 _ (by omega)
      obtain ⟨n, hn⟩ : ∃ n, n = y.natAbs := ⟨_, rfl⟩
      rw [← hn] at hl2
      have hmx : max y (-y) = (n : Int) := by omega
      have hk64 : k < 18446744073709551616 := by omega
      have hn2 : n < 18446744073709551616 := by omega
      have hl3 : (str (hexD k)).size ≤ 20 := hl1
      have hl4 : (str (Lib.decDigits n)).size ≤ 20 := hl2
      by_cases hyn : y < 0
      · have t10 : decide (y < 0) = true := by simpa using hyn
        have hI : Lib.itoa y = 45 :: Lib.decDigits n := by unfold Lib.itoa; rw [if_pos hyn, hn]
        have hF2 := Lib.hid (hI ▸ hF.out)
        clear hI hF hyn hn
        have tok : True := trivial
        go_wp2_with (go_at_call 121; have _t := tok; clear tok; refine (rdig10 n _ hn2).mono ?_; rintro e w1 ⟨rfl, hb1⟩)
        all_goals first | (exfalso; omega) | skip
        have tok : True := trivial
        go_wp2_with (go_at_call 121; have _t := tok; clear tok; refine (rdig16 k _ hk64).mono ?_; rintro e w2 ⟨rfl, hb2⟩)
        all_goals first | (exfalso; omega) | skip
        go_ret
        exact ⟨by rw [hF2.out]; exact congrArg (fun s => Ending.returned (.string s)) (ByteArray.ext (by simp [str])), (hbw.trans hb1).trans hb2⟩
      · have t10 : decide (y < 0) = false := by simpa using hyn
        have hI : Lib.itoa y = Lib.decDigits n := by unfold Lib.itoa; rw [if_neg hyn, show y.toNat = n by omega]
        have hF2 := Lib.hid (hI ▸ hF.out)
        clear hI hF hyn hn
        have tok : True := trivial
        go_wp2_with (go_at_call 121; have _t := tok; clear tok; refine (rdig10 n _ hn2).mono ?_; rintro e w1 ⟨rfl, hb1⟩)
        all_goals first | (exfalso; omega) | skip
        have tok : True := trivial
        go_wp2_with (go_at_call 121; have _t := tok; clear tok; refine (rdig16 k _ hk64).mono ?_; rintro e w2 ⟨rfl, hb2⟩)
        all_goals first | (exfalso; omega) | skip
        go_ret
        exact ⟨by rw [hF2.out]; exact congrArg (fun s => Ending.returned (.string s)) (ByteArray.ext (by simp [str])), (hbw.trans hb1).trans hb2⟩
    · have t8 : ((k : Int) % 2 == 0) = true := by simp; omega
      have t9 : (k % 2 == 0) = true := by simp; omega
      have t10 : wrap64 (E + (j : Int) + 1) = E + ((j + 1 : Nat) : Int) := by unfold wrap64; omega
      have hk2 : k / 2 * 2 ^ (j + 1) = M := by rw [Nat.pow_succ, Nat.mul_comm (2 ^ j) 2, ← Nat.mul_assoc, show k / 2 * 2 = k by omega]; exact hk
      have HK := Lib.hid hk2
      clear hk2 hk
      go_wp2_with fail
      exact ⟨⟨k / 2, j + 1, congrArg (Value.int .u64) (by omega), congrArg (Value.int .i64) (by first | omega | (unfold wrap64; omega)), HK.out, by omega, by omega, hbw⟩, by simp [intOf]; omega⟩
set_option linter.unusedSimpArgs false in
set_option maxRecDepth 100000 in
set_option maxHeartbeats 2000000 in
theorem rfl_finnf (b r : Nat) (hb : b < 18446744073709551616) (hr : r = b % SG) (W : World) (hs : SG ≤ b) (f p M : Nat) (E : Int) (hfp : f = r % 4503599627370496) (hpp : p = r / 4503599627370496) (hp : 0 < p) (hM : M = f + 4503599627370496) (hE : E = (p : Int) - 1 - 1074) (hrI : r < INF) (h0 : r ≠ 0) : Calls Tryz.prog 102 #[.float .f64 b] W fun e w' => e = .returned (.string (str (fl b))) ∧ But [] W w' := by
  have t1 : ((b : Int) / 9223372036854775808 == 1) = true := by simp only [SG] at *; simp; omega
  have hp2 : p ≤ 2046 := by clear hE hM; simp only [INF] at hrI; omega
  have t2 : decide ((9218868437227405312 : Int) < (r : Int)) = false := by simp only [SG, INF] at *; simp; omega
  have t3 : ((r : Int) == 9218868437227405312) = false := by simp only [SG, INF] at *; simp; omega
  have t4 : ((r : Int) == 0) = false := by simp; omega
  have t5 : (r : Int) % 4503599627370496 = (f : Int) := by omega
  have t6 : (r : Int) / 4503599627370496 = (p : Int) := by omega
  have hE1 : -1074 ≤ E ∧ E ≤ 1000 := by omega
  have hM0 : 0 < M := by omega
  have hM1 : M < 9007199254740992 := by omega
  have hq : b % 4503599627370496 = r % 4503599627370496 := by simp only [SG] at hr; omega
  have hsm : spm b = M := by unfold spm; simp only [ON]; rw [← hr, if_neg (by omega)]; omega
  have hse : spe b = E := by unfold spe; simp only [ON]; rw [← hr, if_neg (by omega)]; omega
  have hfin : fin b := ⟨hb, by omega⟩
  have HF := Lib.hid (show ∀ k j : Nat, k % 2 = 1 → k * 2 ^ j = M → fl b = [45] ++ ([48, 120] ++ (hexD k ++ 112 :: Lib.itoa (E + (j : Int)))) from fun k j hk hj => by
    obtain ⟨c1, c2⟩ := cm_odd hk (hj.trans hsm.symm)
    rw [fl_fin hfin, c1, c2, hse, if_pos hs])
  have hMi : (M : Int) = (f : Int) + 4503599627370496 := by omega
  have q1 : -10000 ≤ (p : Int) - 1 := by omega
  have q2 : (p : Int) - 1 ≤ 10000 := by omega
  have q3 : -10000 ≤ (p : Int) - 1 - 1074 := by omega
  have q4 : (p : Int) - 1 - 1074 ≤ 10000 := by omega
  have q5 : -10000 ≤ (p : Int) := by omega
  have q6 : (p : Int) ≤ 10000 := by omega
  have q7 : (p : Int) - 1 - 1074 = E := by omega
  have q8 : decide (0 < (p : Int)) = true := by simp; omega
  obtain ⟨z, hw, hz⟩ : ∃ z : Int, IntKind.u64.wrap ((b : Int) * 2) = z ∧ z / 2 = (r : Int) := ⟨2 * (r : Int), by rw [IntKind.wrap_u64]; simp only [SG] at hr; omega, by omega⟩
  have t7 : decide (0 < wrap64 (p : Int)) = true := (congrArg (fun x : Int => decide (0 < x)) (wr_small q5 q6)).trans q8
  have HW := Lib.hid (show wrap64 (wrap64 (wrap64 (p : Int) - 1) - 1074) = E from (congrArg (fun x : Int => wrap64 (wrap64 (x - 1) - 1074)) (wr_small q5 q6)).trans ((congrArg (fun x : Int => wrap64 (x - 1074)) (wr_small q1 q2)).trans ((wr_small q3 q4).trans q7)))
  clear q1 q2 q3 q4 q5 q6 q7 q8
  clear hp2 hq hsm hse hfin hr hfp hpp hp hM hE hrI h0 hs
  go_enter Tryz.func102, Tryz.ntmps102
  go_wp2_with fail
  go_loopw [5, 6] (fun m e wr => ∃ k j : Nat, m = .int .u64 (k : Int) ∧ e = .int .i64 (E + (j : Int)) ∧ k * 2 ^ j = M ∧ j ≤ 64 ∧ 0 < k ∧ But [] W wr) (fun m _ _ => (intOf m).toNat)
  case atStart => exact ⟨M, 0, congrArg (Value.int .u64) (by first | exact hMi.symm | exact (hMi.trans t5.symm).symm | (clear hw hz t7; omega)), congrArg (Value.int .i64) (by rw [Int.natCast_zero, Int.add_zero]; exact HW.out), by simp, by decide, hM0, But.refl _ _⟩
  case round =>
    obtain ⟨k, j, rfl, rfl, hk, hj, k0, hbw⟩ := hrel
    clear hw hz t7
    have hj1 : j < 53 := by
      have h1 : 2 ^ j ≤ M := by rw [← hk]; exact Nat.le_mul_of_pos_left _ k0
      exact (Nat.pow_lt_pow_iff_right (a := 2) (by omega)).1 (Nat.lt_of_le_of_lt h1 (Nat.lt_of_lt_of_eq hM1 (by decide)))
    have hkM : k ≤ M := by rw [← hk]; exact Nat.le_mul_of_pos_right _ (Nat.two_pow_pos j)
    have hk53 : k < 9007199254740992 := by omega
    by_cases ho : k % 2 = 1
    · have t8 : ((k : Int) % 2 == 0) = false := by simp; omega
      have t9 : (k % 2 == 0) = false := by simp; omega
      have hF := Lib.hid (HF.out k j ho hk)
      have hy : -1074 ≤ E + (j : Int) ∧ E + (j : Int) ≤ 1100 := by omega
      clear hk ho HF hkM hMi
      generalize E + (j : Int) = y at *
      have hl1 : (hexD k).length ≤ 20 := hexD_len 19 k (by omega)
      have hl2 : (Lib.decDigits y.natAbs).length ≤ 20 := dd_len 19 _ (by omega)
      obtain ⟨n, hn⟩ : ∃ n, n = y.natAbs := ⟨_, rfl⟩
      rw [← hn] at hl2
      have hmx : max y (-y) = (n : Int) := by omega
      have hk64 : k < 18446744073709551616 := by omega
      have hn2 : n < 18446744073709551616 := by omega
      have hl3 : (str (hexD k)).size ≤ 20 := hl1
      have hl4 : (str (Lib.decDigits n)).size ≤ 20 := hl2
      by_cases hyn : y < 0
      · have t10 : decide (y < 0) = true := by simpa using hyn
        have hI : Lib.itoa y = 45 :: Lib.decDigits n := by unfold Lib.itoa; rw [if_pos hyn, hn]
        have hF2 := Lib.hid (hI ▸ hF.out)
        clear hI hF hyn hn
        have tok : True := trivial
        go_wp2_with (go_at_call 121; have _t := tok; clear tok; refine (rdig10 n _ hn2).mono ?_; rintro e w1 ⟨rfl, hb1⟩)
        all_goals first | (exfalso; omega) | skip
        have tok : True := trivial
        go_wp2_with (go_at_call 121; have _t := tok; clear tok; refine (rdig16 k _ hk64).mono ?_; rintro e w2 ⟨rfl, hb2⟩)
        all_goals first | (exfalso; omega) | skip
        go_ret
        exact ⟨by rw [hF2.out]; exact congrArg (fun s => Ending.returned (.string s)) (ByteArray.ext (by simp [str])), (hbw.trans hb1).trans hb2⟩
      · have t10 : decide (y < 0) = false := by simpa using hyn
        have hI : Lib.itoa y = Lib.decDigits n := by unfold Lib.itoa; rw [if_neg hyn, show y.toNat = n by omega]
        have hF2 := Lib.hid (hI ▸ hF.out)
        clear hI hF hyn hn
        have tok : True := trivial
        go_wp2_with (go_at_call 121; have _t := tok; clear tok; refine (rdig10 n _ hn2).mono ?_; rintro e w1 ⟨rfl, hb1⟩)
        all_goals first | (exfalso; omega) | skip
        have tok : True := trivial
        go_wp2_with (go_at_call 121; have _t := tok; clear tok; refine (rdig16 k _ hk64).mono ?_; rintro e w2 ⟨rfl, hb2⟩)
        all_goals first | (exfalso; omega) | skip
        go_ret
        exact ⟨by rw [hF2.out]; exact congrArg (fun s => Ending.returned (.string s)) (ByteArray.ext (by simp [str])), (hbw.trans hb1).trans hb2⟩
    · have t8 : ((k : Int) % 2 == 0) = true := by simp; omega
      have t9 : (k % 2 == 0) = true := by simp; omega
      have t10 : wrap64 (E + (j : Int) + 1) = E + ((j + 1 : Nat) : Int) := by unfold wrap64; omega
      have hk2 : k / 2 * 2 ^ (j + 1) = M := by rw [Nat.pow_succ, Nat.mul_comm (2 ^ j) 2, ← Nat.mul_assoc, show k / 2 * 2 = k by omega]; exact hk
      have HK := Lib.hid hk2
      clear hk2 hk
      go_wp2_with fail
      exact ⟨⟨k / 2, j + 1, congrArg (Value.int .u64) (by omega), congrArg (Value.int .i64) (by first | omega | (unfold wrap64; omega)), HK.out, by omega, by omega, hbw⟩, by simp [intOf]; omega⟩
set_option linter.unusedSimpArgs false in
set_option maxRecDepth 100000 in
set_option maxHeartbeats 2000000 in
theorem rfl_finps (b r : Nat) (hb : b < 18446744073709551616) (hr : r = b % SG) (W : World) (hs : ¬ SG ≤ b) (f p M : Nat) (E : Int) (hfp : f = r % 4503599627370496) (hpp : p = r / 4503599627370496) (hp : p = 0) (hM : M = f) (hE : E = -1074) (hrI : r < INF) (h0 : r ≠ 0) : Calls Tryz.prog 102 #[.float .f64 b] W fun e w' => e = .returned (.string (str (fl b))) ∧ But [] W w' := by
  have t1 : ((b : Int) / 9223372036854775808 == 1) = false := by simp only [SG] at *; simp; omega
  have hp2 : p ≤ 2046 := by clear hE hM; simp only [INF] at hrI; omega
  have t2 : decide ((9218868437227405312 : Int) < (r : Int)) = false := by simp only [SG, INF] at *; simp; omega
  have t3 : ((r : Int) == 9218868437227405312) = false := by simp only [SG, INF] at *; simp; omega
  have t4 : ((r : Int) == 0) = false := by simp; omega
  have t5 : (r : Int) % 4503599627370496 = (f : Int) := by omega
  have t6 : (r : Int) / 4503599627370496 = (p : Int) := by omega
  have hE1 : -1074 ≤ E ∧ E ≤ 1000 := by omega
  have hM0 : 0 < M := by omega
  have hM1 : M < 9007199254740992 := by omega
  have hq : b % 4503599627370496 = r % 4503599627370496 := by simp only [SG] at hr; omega
  have hsm : spm b = M := by unfold spm; simp only [ON]; rw [← hr, if_pos (by omega)]; omega
  have hse : spe b = E := by unfold spe; simp only [ON]; rw [← hr, if_pos (by omega)]; omega
  have hfin : fin b := ⟨hb, by omega⟩
  have HF := Lib.hid (show ∀ k j : Nat, k % 2 = 1 → k * 2 ^ j = M → fl b = ([] : List UInt8) ++ ([48, 120] ++ (hexD k ++ 112 :: Lib.itoa (E + (j : Int)))) from fun k j hk hj => by
    obtain ⟨c1, c2⟩ := cm_odd hk (hj.trans hsm.symm)
    rw [fl_fin hfin, c1, c2, hse, if_neg hs])
  have hMi : (M : Int) = (f : Int) := by omega
  have q1 : -10000 ≤ (p : Int) - 1074 := by omega
  have q2 : (p : Int) - 1074 ≤ 10000 := by omega
  have q5 : -10000 ≤ (p : Int) := by omega
  have q6 : (p : Int) ≤ 10000 := by omega
  have q7 : (p : Int) - 1074 = E := by omega
  have q8 : decide (0 < (p : Int)) = false := by simp; omega
  obtain ⟨z, hw, hz⟩ : ∃ z : Int, IntKind.u64.wrap ((b : Int) * 2) = z ∧ z / 2 = (r : Int) := ⟨2 * (r : Int), by rw [IntKind.wrap_u64]; simp only [SG] at hr; omega, by omega⟩
  have t7 : decide (0 < wrap64 (p : Int)) = false := (congrArg (fun x : Int => decide (0 < x)) (wr_small q5 q6)).trans q8
  have HW := Lib.hid (show wrap64 (wrap64 (p : Int) - 1074) = E from (congrArg (fun x : Int => wrap64 (x - 1074)) (wr_small q5 q6)).trans ((wr_small q1 q2).trans q7))
  clear q1 q2 q5 q6 q7 q8
  clear hp2 hq hsm hse hfin hr hfp hpp hp hM hE hrI h0 hs
  go_enter Tryz.func102, Tryz.ntmps102
  go_wp2_with fail
  go_loopw [5, 6] (fun m e wr => ∃ k j : Nat, m = .int .u64 (k : Int) ∧ e = .int .i64 (E + (j : Int)) ∧ k * 2 ^ j = M ∧ j ≤ 64 ∧ 0 < k ∧ But [] W wr) (fun m _ _ => (intOf m).toNat)
  case atStart => exact ⟨M, 0, congrArg (Value.int .u64) (by first | exact hMi.symm | exact (hMi.trans t5.symm).symm | (clear hw hz t7; omega)), congrArg (Value.int .i64) (by rw [Int.natCast_zero, Int.add_zero]; exact HW.out), by simp, by decide, hM0, But.refl _ _⟩
  case round =>
    obtain ⟨k, j, rfl, rfl, hk, hj, k0, hbw⟩ := hrel
    clear hw hz t7
    have hj1 : j < 53 := by
      have h1 : 2 ^ j ≤ M := by rw [← hk]; exact Nat.le_mul_of_pos_left _ k0
      exact (Nat.pow_lt_pow_iff_right (a := 2) (by omega)).1 (Nat.lt_of_le_of_lt h1 (Nat.lt_of_lt_of_eq hM1 (by decide)))
    have hkM : k ≤ M := by rw [← hk]; exact Nat.le_mul_of_pos_right _ (Nat.two_pow_pos j)
    have hk53 : k < 9007199254740992 := by omega
    by_cases ho : k % 2 = 1
    · have t8 : ((k : Int) % 2 == 0) = false := by simp; omega
      have t9 : (k % 2 == 0) = false := by simp; omega
      have hF := Lib.hid (HF.out k j ho hk)
      have hy : -1074 ≤ E + (j : Int) ∧ E + (j : Int) ≤ 1100 := by omega
      clear hk ho HF hkM hMi
      generalize E + (j : Int) = y at *
      have hl1 : (hexD k).length ≤ 20 := hexD_len 19 k (by omega)
      have hl2 : (Lib.decDigits y.natAbs).length ≤ 20 := dd_len 19 _ (by omega)
      obtain ⟨n, hn⟩ : ∃ n, n = y.natAbs := ⟨_, rfl⟩
      rw [← hn] at hl2
      have hmx : max y (-y) = (n : Int) := by omega
      have hk64 : k < 18446744073709551616 := by omega
      have hn2 : n < 18446744073709551616 := by omega
      have hl3 : (str (hexD k)).size ≤ 20 := hl1
      have hl4 : (str (Lib.decDigits n)).size ≤ 20 := hl2
      by_cases hyn : y < 0
      · have t10 : decide (y < 0) = true := by simpa using hyn
        have hI : Lib.itoa y = 45 :: Lib.decDigits n := by unfold Lib.itoa; rw [if_pos hyn, hn]
        have hF2 := Lib.hid (hI ▸ hF.out)
        clear hI hF hyn hn
        have tok : True := trivial
        go_wp2_with (go_at_call 121; have _t := tok; clear tok; refine (rdig10 n _ hn2).mono ?_; rintro e w1 ⟨rfl, hb1⟩)
        all_goals first | (exfalso; omega) | skip
        have tok : True := trivial
        go_wp2_with (go_at_call 121; have _t := tok; clear tok; refine (rdig16 k _ hk64).mono ?_; rintro e w2 ⟨rfl, hb2⟩)
        all_goals first | (exfalso; omega) | skip
        go_ret
        exact ⟨by rw [hF2.out]; exact congrArg (fun s => Ending.returned (.string s)) (ByteArray.ext (by simp [str])), (hbw.trans hb1).trans hb2⟩
      · have t10 : decide (y < 0) = false := by simpa using hyn
        have hI : Lib.itoa y = Lib.decDigits n := by unfold Lib.itoa; rw [if_neg hyn, show y.toNat = n by omega]
        have hF2 := Lib.hid (hI ▸ hF.out)
        clear hI hF hyn hn
        have tok : True := trivial
        go_wp2_with (go_at_call 121; have _t := tok; clear tok; refine (rdig10 n _ hn2).mono ?_; rintro e w1 ⟨rfl, hb1⟩)
        all_goals first | (exfalso; omega) | skip
        have tok : True := trivial
        go_wp2_with (go_at_call 121; have _t := tok; clear tok; refine (rdig16 k _ hk64).mono ?_; rintro e w2 ⟨rfl, hb2⟩)
        all_goals first | (exfalso; omega) | skip
        go_ret
        exact ⟨by rw [hF2.out]; exact congrArg (fun s => Ending.returned (.string s)) (ByteArray.ext (by simp [str])), (hbw.trans hb1).trans hb2⟩
    · have t8 : ((k : Int) % 2 == 0) = true := by simp; omega
      have t9 : (k % 2 == 0) = true := by simp; omega
      have t10 : wrap64 (E + (j : Int) + 1) = E + ((j + 1 : Nat) : Int) := by unfold wrap64; omega
      have hk2 : k / 2 * 2 ^ (j + 1) = M := by rw [Nat.pow_succ, Nat.mul_comm (2 ^ j) 2, ← Nat.mul_assoc, show k / 2 * 2 = k by omega]; exact hk
      have HK := Lib.hid hk2
      clear hk2 hk
      go_wp2_with fail
      exact ⟨⟨k / 2, j + 1, congrArg (Value.int .u64) (by omega), congrArg (Value.int .i64) (by first | omega | (unfold wrap64; omega)), HK.out, by omega, by omega, hbw⟩, by simp [intOf]; omega⟩
set_option linter.unusedSimpArgs false in
set_option maxRecDepth 100000 in
set_option maxHeartbeats 2000000 in
theorem rfl_finpf (b r : Nat) (hb : b < 18446744073709551616) (hr : r = b % SG) (W : World) (hs : ¬ SG ≤ b) (f p M : Nat) (E : Int) (hfp : f = r % 4503599627370496) (hpp : p = r / 4503599627370496) (hp : 0 < p) (hM : M = f + 4503599627370496) (hE : E = (p : Int) - 1 - 1074) (hrI : r < INF) (h0 : r ≠ 0) : Calls Tryz.prog 102 #[.float .f64 b] W fun e w' => e = .returned (.string (str (fl b))) ∧ But [] W w' := by
  have t1 : ((b : Int) / 9223372036854775808 == 1) = false := by simp only [SG] at *; simp; omega
  have hp2 : p ≤ 2046 := by clear hE hM; simp only [INF] at hrI; omega
  have t2 : decide ((9218868437227405312 : Int) < (r : Int)) = false := by simp only [SG, INF] at *; simp; omega
  have t3 : ((r : Int) == 9218868437227405312) = false := by simp only [SG, INF] at *; simp; omega
  have t4 : ((r : Int) == 0) = false := by simp; omega
  have t5 : (r : Int) % 4503599627370496 = (f : Int) := by omega
  have t6 : (r : Int) / 4503599627370496 = (p : Int) := by omega
  have hE1 : -1074 ≤ E ∧ E ≤ 1000 := by omega
  have hM0 : 0 < M := by omega
  have hM1 : M < 9007199254740992 := by omega
  have hq : b % 4503599627370496 = r % 4503599627370496 := by simp only [SG] at hr; omega
  have hsm : spm b = M := by unfold spm; simp only [ON]; rw [← hr, if_neg (by omega)]; omega
  have hse : spe b = E := by unfold spe; simp only [ON]; rw [← hr, if_neg (by omega)]; omega
  have hfin : fin b := ⟨hb, by omega⟩
  have HF := Lib.hid (show ∀ k j : Nat, k % 2 = 1 → k * 2 ^ j = M → fl b = ([] : List UInt8) ++ ([48, 120] ++ (hexD k ++ 112 :: Lib.itoa (E + (j : Int)))) from fun k j hk hj => by
    obtain ⟨c1, c2⟩ := cm_odd hk (hj.trans hsm.symm)
    rw [fl_fin hfin, c1, c2, hse, if_neg hs])
  have hMi : (M : Int) = (f : Int) + 4503599627370496 := by omega
  have q1 : -10000 ≤ (p : Int) - 1 := by omega
  have q2 : (p : Int) - 1 ≤ 10000 := by omega
  have q3 : -10000 ≤ (p : Int) - 1 - 1074 := by omega
  have q4 : (p : Int) - 1 - 1074 ≤ 10000 := by omega
  have q5 : -10000 ≤ (p : Int) := by omega
  have q6 : (p : Int) ≤ 10000 := by omega
  have q7 : (p : Int) - 1 - 1074 = E := by omega
  have q8 : decide (0 < (p : Int)) = true := by simp; omega
  obtain ⟨z, hw, hz⟩ : ∃ z : Int, IntKind.u64.wrap ((b : Int) * 2) = z ∧ z / 2 = (r : Int) := ⟨2 * (r : Int), by rw [IntKind.wrap_u64]; simp only [SG] at hr; omega, by omega⟩
  have t7 : decide (0 < wrap64 (p : Int)) = true := (congrArg (fun x : Int => decide (0 < x)) (wr_small q5 q6)).trans q8
  have HW := Lib.hid (show wrap64 (wrap64 (wrap64 (p : Int) - 1) - 1074) = E from (congrArg (fun x : Int => wrap64 (wrap64 (x - 1) - 1074)) (wr_small q5 q6)).trans ((congrArg (fun x : Int => wrap64 (x - 1074)) (wr_small q1 q2)).trans ((wr_small q3 q4).trans q7)))
  clear q1 q2 q3 q4 q5 q6 q7 q8
  clear hp2 hq hsm hse hfin hr hfp hpp hp hM hE hrI h0 hs
  go_enter Tryz.func102, Tryz.ntmps102
  go_wp2_with fail
  go_loopw [5, 6] (fun m e wr => ∃ k j : Nat, m = .int .u64 (k : Int) ∧ e = .int .i64 (E + (j : Int)) ∧ k * 2 ^ j = M ∧ j ≤ 64 ∧ 0 < k ∧ But [] W wr) (fun m _ _ => (intOf m).toNat)
  case atStart => exact ⟨M, 0, congrArg (Value.int .u64) (by first | exact hMi.symm | exact (hMi.trans t5.symm).symm | (clear hw hz t7; omega)), congrArg (Value.int .i64) (by rw [Int.natCast_zero, Int.add_zero]; exact HW.out), by simp, by decide, hM0, But.refl _ _⟩
  case round =>
    obtain ⟨k, j, rfl, rfl, hk, hj, k0, hbw⟩ := hrel
    clear hw hz t7
    have hj1 : j < 53 := by
      have h1 : 2 ^ j ≤ M := by rw [← hk]; exact Nat.le_mul_of_pos_left _ k0
      exact (Nat.pow_lt_pow_iff_right (a := 2) (by omega)).1 (Nat.lt_of_le_of_lt h1 (Nat.lt_of_lt_of_eq hM1 (by decide)))
    have hkM : k ≤ M := by rw [← hk]; exact Nat.le_mul_of_pos_right _ (Nat.two_pow_pos j)
    have hk53 : k < 9007199254740992 := by omega
    by_cases ho : k % 2 = 1
    · have t8 : ((k : Int) % 2 == 0) = false := by simp; omega
      have t9 : (k % 2 == 0) = false := by simp; omega
      have hF := Lib.hid (HF.out k j ho hk)
      have hy : -1074 ≤ E + (j : Int) ∧ E + (j : Int) ≤ 1100 := by omega
      clear hk ho HF hkM hMi
      generalize E + (j : Int) = y at *
      have hl1 : (hexD k).length ≤ 20 := hexD_len 19 k (by omega)
      have hl2 : (Lib.decDigits y.natAbs).length ≤ 20 := dd_len 19 _ (by omega)
      obtain ⟨n, hn⟩ : ∃ n, n = y.natAbs := ⟨_, rfl⟩
      rw [← hn] at hl2
      have hmx : max y (-y) = (n : Int) := by omega
      have hk64 : k < 18446744073709551616 := by omega
      have hn2 : n < 18446744073709551616 := by omega
      have hl3 : (str (hexD k)).size ≤ 20 := hl1
      have hl4 : (str (Lib.decDigits n)).size ≤ 20 := hl2
      by_cases hyn : y < 0
      · have t10 : decide (y < 0) = true := by simpa using hyn
        have hI : Lib.itoa y = 45 :: Lib.decDigits n := by unfold Lib.itoa; rw [if_pos hyn, hn]
        have hF2 := Lib.hid (hI ▸ hF.out)
        clear hI hF hyn hn
        have tok : True := trivial
        go_wp2_with (go_at_call 121; have _t := tok; clear tok; refine (rdig10 n _ hn2).mono ?_; rintro e w1 ⟨rfl, hb1⟩)
        all_goals first | (exfalso; omega) | skip
        have tok : True := trivial
        go_wp2_with (go_at_call 121; have _t := tok; clear tok; refine (rdig16 k _ hk64).mono ?_; rintro e w2 ⟨rfl, hb2⟩)
        all_goals first | (exfalso; omega) | skip
        go_ret
        exact ⟨by rw [hF2.out]; exact congrArg (fun s => Ending.returned (.string s)) (ByteArray.ext (by simp [str])), (hbw.trans hb1).trans hb2⟩
      · have t10 : decide (y < 0) = false := by simpa using hyn
        have hI : Lib.itoa y = Lib.decDigits n := by unfold Lib.itoa; rw [if_neg hyn, show y.toNat = n by omega]
        have hF2 := Lib.hid (hI ▸ hF.out)
        clear hI hF hyn hn
        have tok : True := trivial
        go_wp2_with (go_at_call 121; have _t := tok; clear tok; refine (rdig10 n _ hn2).mono ?_; rintro e w1 ⟨rfl, hb1⟩)
        all_goals first | (exfalso; omega) | skip
        have tok : True := trivial
        go_wp2_with (go_at_call 121; have _t := tok; clear tok; refine (rdig16 k _ hk64).mono ?_; rintro e w2 ⟨rfl, hb2⟩)
        all_goals first | (exfalso; omega) | skip
        go_ret
        exact ⟨by rw [hF2.out]; exact congrArg (fun s => Ending.returned (.string s)) (ByteArray.ext (by simp [str])), (hbw.trans hb1).trans hb2⟩
    · have t8 : ((k : Int) % 2 == 0) = true := by simp; omega
      have t9 : (k % 2 == 0) = true := by simp; omega
      have t10 : wrap64 (E + (j : Int) + 1) = E + ((j + 1 : Nat) : Int) := by unfold wrap64; omega
      have hk2 : k / 2 * 2 ^ (j + 1) = M := by rw [Nat.pow_succ, Nat.mul_comm (2 ^ j) 2, ← Nat.mul_assoc, show k / 2 * 2 = k by omega]; exact hk
      have HK := Lib.hid hk2
      clear hk2 hk
      go_wp2_with fail
      exact ⟨⟨k / 2, j + 1, congrArg (Value.int .u64) (by omega), congrArg (Value.int .i64) (by first | omega | (unfold wrap64; omega)), HK.out, by omega, by omega, hbw⟩, by simp [intOf]; omega⟩

theorem reffloat_any (b : Nat) (hb : b < 18446744073709551616) (W : World) : Calls Tryz.prog 102 #[.float .f64 b] W fun e w' => e = .returned (.string (str (fl b))) ∧ But [] W w' := by
  obtain ⟨r, hr⟩ : ∃ r, r = b % SG := ⟨_, rfl⟩
  by_cases hn : nan b = true
  · by_cases hs : SG ≤ b
    · exact rfl_nann b r hb hr W hs hn
    · exact rfl_nanp b r hb hr W hs hn
  have hn' : ¬ INF < r := by intro h; apply hn; unfold nan; simp; omega
  by_cases hi : r = INF
  · by_cases hs : SG ≤ b
    · exact rfl_infn b r hb hr W hs hi
    · exact rfl_infp b r hb hr W hs hi
  by_cases h0 : r = 0
  · by_cases hs : SG ≤ b
    · exact rfl_zeron b r hb hr W hs h0
    · exact rfl_zerop b r hb hr W hs h0
  have hlt : r < INF := by omega
  by_cases hp : r / 4503599627370496 = 0
  · by_cases hs : SG ≤ b
    · exact rfl_finns b r hb hr W hs _ _ _ _ rfl rfl hp rfl rfl hlt h0
    · exact rfl_finps b r hb hr W hs _ _ _ _ rfl rfl hp rfl rfl hlt h0
  · by_cases hs : SG ≤ b
    · exact rfl_finnf b r hb hr W hs _ _ _ _ rfl rfl (by omega) rfl rfl hlt h0
    · exact rfl_finpf b r hb hr W hs _ _ _ _ rfl rfl (by omega) rfl rfl hlt h0
end Go.Proofs.YtnghppgpdeghfaaGreatDoor
