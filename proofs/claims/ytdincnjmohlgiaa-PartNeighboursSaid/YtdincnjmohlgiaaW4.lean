/- Contracts of layer 1: the reference's size and nearest, its Join; awake. -/
import Derived.Test.YtdincnjmohlgiaaW3

namespace Go.Proofs.Ytdincnjmohlgiaa
open Go.RowKit Go.Proofs.Ytdincnjmohlgiaa.Fl Go.Proofs.Ytdincnjmohlgiaa.Pt

theorem size_any (m : Nat) (hm : m < 18446744073709551616) (w : World) :
    Calls Try.prog 69 #[.int .u64 m] w fun e w' => e = .returned (.int .i64 (Lib.bitLen m)) ∧ w = w' := by
  have hb : Lib.bitLen m ≤ 64 := by
    by_cases h : m = 0
    · subst h; decide
    · exact (bitLen_bd hm h).2.1
  go_enter Try.func69, Try.ntmps69
  go_wp2
  go_loop [0, 3] (fun x n => ∃ X K : Nat, X < 18446744073709551616 ∧ K ≤ 64 ∧ Hid (Lib.bitLen X + K = Lib.bitLen m) ∧ x = .int .u64 X ∧ n = .int .i64 K) (fun x _ => (intOf x).toNat)
  case atStart => exact ⟨m, 0, hm, by omega, Lib.hid rfl, rfl, rfl⟩
  case round =>
    obtain ⟨X, K, hX, hK, H, rfl, rfl⟩ := hrel
    by_cases h0 : X = 0
    · have g0 : decide ((0 : Int) < X) = false := df (by omega)
      have g1 : decide (0 < X) = false := df (by omega)
      have H0 := Lib.hid h0
      clear h0
      go_wp2
      go_ret
      exact ⟨ri (by have := H.out; rw [H0.out, bitLen_zero] at this; omega), rfl⟩
    · have g0 : decide ((0 : Int) < X) = true := dt (by omega)
      have g1 : 0 < X := by omega
      have g2 := Lib.hid (bitLen_half hX h0)
      go_wp2
      go_round
      case rel => exact ⟨X / 2, K + 1, by omega, by have := H.out; have := g2.out; omega, Lib.hid (by have := H.out; have := g2.out; omega), by go_num, by go_num⟩
      case measure => simp [intOf]; omega

set_option maxRecDepth 100000 in
theorem nearest_any (m : Nat) (hm : m < 18446744073709551616) (e : Int) (w : World) :
    Calls Try.prog 55 #[.int .u64 m, .int .i64 e] w fun e' w' => e' = .returned (.int .u64 (nearN m e)) ∧ w = w' := by
  rcases near_ways m e with ⟨g0, R⟩ | ⟨g0, g1, R⟩ | ⟨g0, g1, g2, R⟩ | ⟨g0, g1, g2, H⟩
  · go_enter Try.func55, Try.ntmps55
    go_wp2
    go_ret
    exact ⟨ri (by rw [← R.out]; rfl), rfl⟩
  · go_enter Try.func55, Try.ntmps55
    go_wp2
    go_ret
    exact ⟨ri (by rw [← R.out]; rfl), rfl⟩
  · go_enter Try.func55, Try.ntmps55
    go_wp2
    go_ret
    exact ⟨ri (by rw [← R.out]; rfl), rfl⟩
  · obtain ⟨h0, e1, e2⟩ := H.out
    obtain ⟨k, K, L, hk, k1, hmx, hL1, hL2, hK, HH, hcs⟩ := near_names hm h0 e1 e2
    rcases hcs with ⟨hc, hc1, HK⟩ | ⟨hc, hc1, HK⟩
    · go_enter Try.func55, Try.ntmps55
      go_wp2_with (go_at_call 69; refine (size_any _ hm _).mono ?_; rintro e w' ⟨rfl, rfl⟩)
      go_loop [6, 7] (fun n i => ∃ j N : Nat, (j : Int) ≤ e - L ∧ Hid (N = m * 2 ^ j) ∧ n = .int .u64 N ∧ i = .int .i64 (L + j)) (fun _ i => (e - intOf i).toNat)
      case atStart => exact ⟨0, m, by omega, Lib.hid (by simp), rfl, by go_num⟩
      case round =>
        obtain ⟨j, N, hj, HN, rfl, rfl⟩ := hrel
        by_cases hlt : L + j < e
        · have g3 : decide (L + (j : Int) < e) = true := dt hlt
          have g4 : N * 2 ≤ 9007199254740992 := by
            have : N * 2 ≤ K := by
              rw [HN.out, HK.out, Nat.mul_assoc, ← Nat.pow_succ]
              exact Nat.mul_le_mul_left _ (Nat.pow_le_pow_right (by decide) (by omega))
            omega
          go_wp2
          go_round
          case rel => exact ⟨j + 1, N * 2, by omega, Lib.hid (by rw [HN.out, Nat.pow_succ, Nat.mul_assoc]), by go_num, by go_num⟩
          case measure => simp [intOf]; omega
        · have g3 : decide (L + (j : Int) < e) = false := df hlt
          have hN : N = K := by rw [HN.out, HK.out]; congr 2; omega
          subst hN
          rcases near_ends h0 e1 e2 HH.out.1 HH.out.2 hL1 with ⟨hon, R⟩ | ⟨r, hon, hge, hmn, R⟩
          all_goals
            go_wp2
            go_ret
            exact ⟨ri (by rw [R.out]), rfl⟩
    · go_enter Try.func55, Try.ntmps55
      go_wp2_with (go_at_call 69; refine (size_any _ hm _).mono ?_; rintro e w' ⟨rfl, rfl⟩)
      go_loop [6, 8, 9, 10] (fun n r h i => ∃ (j N q : Nat) (b : Bool), (j : Int) ≤ L - e ∧ N < 18446744073709551616 ∧ Hid (St m j N q b) ∧ n = .int .u64 N ∧ r = .int .u64 q ∧ h = .bool b ∧ i = .int .i64 (e + j)) (fun _ _ _ i => (L - intOf i).toNat)
      case atStart => exact ⟨0, m, 0, false, by omega, hm, Lib.hid (St_zero m), rfl, rfl, rfl, by go_num⟩
      case round =>
        obtain ⟨j, N, q, b, hj, hN, HS, rfl, rfl, rfl, rfl⟩ := hrel
        by_cases hlt : e + j < L
        · have g3 : decide (e + (j : Int) < L) = true := dt hlt
          have HS' := Lib.hid (St_step HS.out)
          have hq := HS.out.2.1
          obtain ⟨bb, hbb⟩ : ∃ bb, (b || q == 1) = bb := ⟨_, rfl⟩
          rw [hbb] at HS'
          cases b
          · have g5 : ((q : Int) == 1) = bb := by rw [← hbb, Bool.false_or, Bool.eq_iff_iff]; simp only [beq_iff_eq]; omega
            have G5 := Lib.hid hbb
            clear hbb
            go_wp2
            all_goals
              go_round
              case rel => exact ⟨j + 1, N / 2, N % 2, bb, by omega, by omega, HS', by go_num, by go_num, rfl, by go_num⟩
              case measure => simp [intOf]; omega
          · have G5 := Lib.hid hbb
            clear hbb
            go_wp2
            all_goals
              go_round
              case rel => exact ⟨j + 1, N / 2, N % 2, bb, by omega, by omega, HS', by go_num, by go_num, by rw [← G5.out]; rfl, by go_num⟩
              case measure => simp [intOf]; omega
        · have g3 : decide (e + (j : Int) < L) = false := df hlt
          have hj2 : j = (L - e).toNat := by omega
          have HJ := Lib.hid hj2
          rw [hj2] at HS
          clear hj2
          rcases near_ends h0 e1 e2 HH.out.1 HH.out.2 hL1 with ⟨hon, R⟩ | ⟨r, hon, hge, hmn, R⟩
          all_goals
            rcases St_end (s := (L - e).toNat) (by omega) HS.out with ⟨t1, t2, T⟩ | ⟨t1, t2, t3, T⟩ | ⟨t1, t2, t3, T⟩ | ⟨t1, T⟩
            · have T' := T.out
              rw [← HK.out] at T'
              clear T
              go_wp2
              go_ret
              exact ⟨ri (by rw [R.out]), rfl⟩
            · have T' := T.out
              rw [← HK.out] at T'
              clear T
              go_wp2
              go_ret
              exact ⟨ri (by rw [R.out]), rfl⟩
            · have T' := T.out
              rw [← HK.out] at T'
              clear T
              obtain rfl : N = K := by omega
              clear T'
              go_wp2
              go_ret
              exact ⟨ri (by rw [R.out]), rfl⟩
            · have T' := T.out
              rw [← HK.out] at T'
              clear T
              obtain rfl : N = K := by omega
              clear T'
              go_wp2
              go_ret
              exact ⟨ri (by rw [R.out]), rfl⟩
theorem docjoin_any (n : Bool) (m : Nat) (e : Int) (hm : m < 18446744073709551616) (w : World) :
    Calls Try.prog 22 #[.bool n, .int .u64 m, .int .i64 e] w fun e' w' => e' = .returned (.float .f64 (wd n (joinN m e))) ∧ w = w' := by
  have h1 : nearN m e = joinN m e := by rw [nearN_RN hm, joinN_RN hm]
  have h2 : joinN m e ≤ 9218868437227405312 := by rw [joinN_RN hm]; exact RN_le _ _
  rw [← h1] at h2 ⊢
  clear h1
  go_enter Try.func22, Try.ntmps22
  go_wp2_with (first | (go_at_call 55; refine (nearest_any _ hm _ _).mono ?_; rintro e w' ⟨rfl, rfl⟩) | (go_at_call 54; refine (refsigned_any _ _ (by omega) (by omega) _).mono ?_; rintro e w' ⟨rfl, rfl⟩))
  go_ret
  exact ⟨rfl, rfl⟩

/-- The calls whose answers the document fixes. -/
theorem awake_any (w : World) : Calls Try.prog 17 #[] w fun e w' => e = .returned (.bool true) ∧ w = w' := by
  have c15 := fun w => split_any 13828302655841107968 (by decide) w
  have e15 : splitV 13828302655841107968 = .tuple #[.bool true, .int .u64 6755399441055744, .int .i64 (-53), .int .i64 0] := by kernel_rfl
  rw [e15] at c15
  have c21 := fun w => join_any true 3 (-2) (by decide) (by decide) w
  have e21 : wd true (joinN (3 : Int).toNat (-2)) = 13828302655841107968 := by kernel_rfl
  rw [e21] at c21
  have c18 := fun w => of_any 4607182418800017408 (by decide) w
  have e18 : cls 4607182418800017408 = 2 := by kernel_rfl
  rw [e18] at c18
  have c28 := fun w => order_any 4607182418800017408 4611686018427387904 (by decide) (by decide) w
  have e28 : ordr (rnk 4607182418800017408) (rnk 4611686018427387904) = -1 := by kernel_rfl
  rw [e28] at c28
  have o : (FloatKind.f64.format.order 13828302655841107968 13828302655841107968 == some .eq) = true := by kernel_rfl
  clear e15 e21 e18 e28
  have C15 := Lib.hid c15
  have C21 := Lib.hid c21
  have C18 := Lib.hid c18
  have C28 := Lib.hid c28
  clear c15 c21 c18 c28
  go_enter Try.func17, Try.ntmps17
  go_wp2_with (first | (go_at_call 15; refine (C15.out _).mono ?_; rintro e w' ⟨rfl, rfl⟩) | (go_at_call 21; refine (C21.out _).mono ?_; rintro e w' ⟨rfl, rfl⟩) | (go_at_call 18; refine (C18.out _).mono ?_; rintro e w' ⟨rfl, rfl⟩) | (go_at_call 28; refine (C28.out _).mono ?_; rintro e w' ⟨rfl, rfl⟩))
  go_ret
  exact ⟨rfl, rfl⟩
end Go.Proofs.Ytdincnjmohlgiaa
