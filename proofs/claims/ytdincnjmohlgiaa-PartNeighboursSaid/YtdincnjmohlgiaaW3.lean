/- Contracts of layer 1: signed, round, Join, and the reference's size, nearest, Join. -/
import Derived.Test.YtdincnjmohlgiaaW2
import Derived.Test.YtdincnjmohlgiaaPj
import Derived.Test.YtdincnjmohlgiaaShelf
namespace Go.Proofs.Ytdincnjmohlgiaa
open Go.RowKit Go.Proofs.Ytdincnjmohlgiaa.Fl Go.Proofs.Ytdincnjmohlgiaa.Pt

theorem signed_any (n : Bool) (m : Int) (h0 : 0 ≤ m) (hb : m < 9223372036854775808) (w : World) :
    Calls Try.prog 51 #[.bool n, .int .u64 m] w fun e w' => e = .returned (.float .f64 (wd n m.toNat)) ∧ w = w' := by
  obtain ⟨m, rfl⟩ := Int.eq_ofNat_of_zero_le h0
  have h1 := or_sg m (by omega)
  cases n
  all_goals
    go_enter Try.func51, Try.ntmps51
    go_wp2
    go_ret
    exact ⟨rf (by unfold wd; simp [SG]; try omega), rfl⟩

theorem refsigned_any (n : Bool) (m : Int) (h0 : 0 ≤ m) (hb : m < 9223372036854775808) (w : World) :
    Calls Try.prog 54 #[.bool n, .int .u64 m] w fun e w' => e = .returned (.float .f64 (wd n m.toNat)) ∧ w = w' := by
  obtain ⟨m, rfl⟩ := Int.eq_ofNat_of_zero_le h0
  cases n
  all_goals
    go_enter Try.func54, Try.ntmps54
    go_wp2
    go_ret
    exact ⟨rf (by unfold wd; simp [SG]; try omega), rfl⟩

theorem round_any (m : Nat) (hm : m < 18446744073709551616) (s : Int) (h1 : 1 ≤ s) (w : World) :
    Calls Try.prog 53 #[.int .u64 m, .int .i64 s] w fun e w' => e = .returned (.int .u64 (rnd m s.toNat)) ∧ w = w' := by
  obtain ⟨n, rfl⟩ := Int.eq_ofNat_of_zero_le (show 0 ≤ s by omega)
  rw [Int.toNat_natCast]
  by_cases h2 : n ≤ 64
  · obtain ⟨h, t, k, r, q, a1, a2, a3, a4, a5, a6, H⟩ := round_names m n hm (by omega) h2
    rcases round_ways (by omega) H.out.1 H.out.2.1 H.out.2.2 with ⟨g0, R⟩ | ⟨g0, g1, g2, R⟩ | ⟨g0, g1, g2, R⟩ | ⟨g0, g1, R⟩
    all_goals
      go_enter Try.func53, Try.ntmps53
      go_wp2
      go_ret
      exact ⟨ri R.out, rfl⟩
  · have e := rnd_great hm (s := n) (by omega)
    have g0 : decide ((64 : Int) < n) = true := dt (by omega)
    go_enter Try.func53, Try.ntmps53
    go_wp2
    go_ret
    exact ⟨ri (by rw [e]; rfl), rfl⟩

theorem len_any (x : Int) (w : World) (h0 : 0 ≤ x) (h1 : x ≤ 18446744073709551615) :
    Calls Try.prog 52 #[.int .u64 x] w fun e w' => e = .returned (.int .i64 (Lib.bitLen x.toNat)) ∧ w = w' :=
  (Try.bits_Len64 x w h0 h1).mono fun _ _ ⟨a, b⟩ => ⟨a, b.symm⟩

set_option maxRecDepth 100000 in
theorem join_any (n : Bool) (m : Int) (e : Int) (m0 : 0 ≤ m) (m1 : m < 18446744073709551616) (w : World) :
    Calls Try.prog 21 #[.bool n, .int .u64 m, .int .i64 e] w fun e' w' => e' = .returned (.float .f64 (wd n (joinN m.toNat e))) ∧ w = w' := by
  obtain ⟨m, rfl⟩ := Int.eq_ofNat_of_zero_le m0
  rw [Int.toNat_natCast]
  have gm : m < 18446744073709551616 := by omega
  rcases join_ways m e with ⟨g0, R⟩ | ⟨g0, g1, R⟩ | ⟨g0, g1, g2, R⟩ | ⟨g0, g1, g2, H⟩
  · go_enter Try.func21, Try.ntmps21
    go_wp2_with (go_at_call 51; refine (signed_any _ _ (by omega) (by omega) _).mono ?_; rintro e w' ⟨rfl, rfl⟩)
    go_ret
    exact ⟨rf (by rw [← R.out]), rfl⟩
  · go_enter Try.func21, Try.ntmps21
    go_wp2_with (go_at_call 51; refine (signed_any _ _ (by omega) (by omega) _).mono ?_; rintro e w' ⟨rfl, rfl⟩)
    go_ret
    exact ⟨rf (by rw [← R.out]), rfl⟩
  · go_enter Try.func21, Try.ntmps21
    go_wp2_with (go_at_call 51; refine (signed_any _ _ (by omega) (by omega) _).mono ?_; rintro e w' ⟨rfl, rfl⟩)
    go_ret
    exact ⟨rf (by rw [← R.out]), rfl⟩
  · obtain ⟨h0, e1, e2⟩ := H.out
    obtain ⟨k, K, L, hk, k1, hmx, hL1, hL2, hK, HH, hcs⟩ := join_names gm h0 e1 e2
    rcases join_ends h0 e1 e2 HH.out.1 HH.out.2 hL1 hL2 hK with ⟨hon, R⟩ | ⟨r, hon, hmn, hr, R⟩
    all_goals
      rcases hcs with ⟨hc, hc1, hc2, hs⟩ | ⟨hc, hc1, hs⟩
      all_goals
        go_enter Try.func21, Try.ntmps21
        go_wp2_with (first | (go_at_call 52; refine (len_any _ _ (by omega) (by omega)).mono ?_; rintro e w' ⟨rfl, rfl⟩) | (go_at_call 51; refine (signed_any _ _ (by omega) (by omega) _).mono ?_; rintro e w' ⟨rfl, rfl⟩) | (go_at_call 53; refine (round_any _ gm _ (by omega) _).mono ?_; rintro e w' ⟨rfl, rfl⟩))
        go_ret
        exact ⟨rf (by rw [R.out]), rfl⟩
end Go.Proofs.Ytdincnjmohlgiaa
