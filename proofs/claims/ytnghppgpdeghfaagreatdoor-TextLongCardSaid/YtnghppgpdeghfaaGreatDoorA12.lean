/- text.right, whole. -/
import Derived.Test.YtnghppgpdeghfaaGreatDoorA11
namespace Go.Proofs.YtnghppgpdeghfaaGreatDoor
open Go.RowKit Go.Proofs.YtnghppgpdeghfaaGreatDoor.Fl Go.Proofs.YtnghppgpdeghfaaGreatDoor.Pt Go.Proofs.YtnghppgpdeghfaaGreatDoor.Tx

/-- What right answers of a text X. -/
def RtP (X : List UInt8) (w : World) (e : Ending) (w' : World) : Prop := ∃ (x : Nat) (ok : Bool), e = .returned (.tuple #[.float .f64 x, .bool ok]) ∧ But [] w w' ∧ x < 18446744073709551616 ∧ (ok = true → fl x = X) ∧ (ok = false → ¬ Rt X)
theorem right_num (neg : Bool) (M T : List UInt8) (hM : ∀ c ∈ M, isH c = true) (hM0 : M ≠ []) (hl : (tok neg M T).length ≤ 65536) (w : World) (hg : Gl w) :
    Calls Tryz.prog 62 #[.string (str (tok neg M T))] w (RtP (tok neg M T) w) := by
  have bad : (∀ n k, pu16 0 M = .ok n → Lib.atoiAll T = .ok k → -2000 ≤ k → k ≤ 2000 → False) → ¬ Rt (tok neg M T) := fun h hx => by
    obtain ⟨n, k, h1, h2, h3, h4, _⟩ := right_none hM hx
    exact h n k h1 h2 h3 h4
  have no : ∀ (h : ¬ Rt (tok neg M T)) {e : Ending} {w' : World}, (e = .returned (.tuple #[.float .f64 0, .bool false]) ∧ But [] w w') → RtP (tok neg M T) w e w' := fun h e w' ⟨h1, h2⟩ => ⟨0, false, h1, h2, by decide, (fun h' => by cases h'), fun _ => h⟩
  cases hn : pu16 0 M with
  | range =>
    have hb := bad (fun n k h1 => by rw [hn] at h1; cases h1)
    cases hk : Lib.atoiAll T with
    | ok k => exact (right_a neg M T hM hM0 hl hn k hk w hg).mono fun _ _ h => no hb h
    | range => exact (right_b neg M T hM hM0 hl hn (fun k h => by rw [hk] at h; cases h) w hg).mono fun _ _ h => no hb h
    | _ => exact (right_b neg M T hM hM0 hl hn (fun k h => by rw [hk] at h; cases h) w hg).mono fun _ _ h => no hb h
  | ok n =>
    cases hk : Lib.atoiAll T with
    | range => exact (right_c neg M T hM hM0 hl n hn (fun k h => by rw [hk] at h; cases h) w hg).mono fun _ _ h => no (bad fun n k _ h1 => by rw [hk] at h1; cases h1) h
    | ok k =>
      by_cases k1 : k < -2000
      · exact (right_d neg M T hM hM0 hl n hn k hk k1 w hg).mono fun _ _ h => no (bad fun n' k' _ h1 h2 _ => by rw [hk] at h1; cases h1; omega) h
      · by_cases k2 : 2000 < k
        · exact (right_e neg M T hM hM0 hl n hn k hk k2 w hg).mono fun _ _ h => no (bad fun n' k' _ h1 _ h2 => by rw [hk] at h1; cases h1; omega) h
        · refine (right_tok neg M T hM hM0 hl n k hn hk (by omega) (by omega) w hg).mono fun e w' ⟨h1, h2⟩ => ⟨_, _, h1, h2, ?_, fun h => of_decide_eq_true h, fun h hx => ?_⟩
          · exact wd_lt _ (Nat.lt_of_le_of_lt (by rw [joinN_RN (by have := pu16_lt _ _ _ (by omega) hn; omega)]; exact RN_le _ _) (by decide))
          · exact of_decide_eq_false h (right_join hM hn hk hx)
    | _ => exact (right_c neg M T hM hM0 hl n hn (fun k h => by rw [hk] at h; cases h) w hg).mono fun _ _ h => no (bad fun n k _ h1 => by rw [hk] at h1; cases h1) h
  | _ => exact absurd hn (pu16_not M 0 hM)
@[go_sem] theorem ifrombits_call (n : Int) (w : World) : (callFunc 142 #[.int .u64 n]).run Tryz.prog w = .ok (.value (.float .f64 n.toNat)) w := by kernel_rfl
set_option maxRecDepth 100000 in
theorem cpl_nan (w : World) : Calls Tryz.prog 146 #[.string ⟨#[110, 97, 110]⟩, .string ⟨#[110, 97, 110]⟩] w fun e w' => e = .returned (.int .i64 3) ∧ w' = w := by
  go_enter Tryz.func146, Tryz.ntmps146
  go_wp2
  go_loop [6, 7] (fun i _ => ∃ k : Nat, k ≤ 3 ∧ i = .int .i64 (k : Int)) (fun i _ => 3 - (intOf i).toNat)
  case atStart => exact ⟨0, by omega, rfl⟩
  case round =>
    obtain ⟨k, hk, rfl⟩ := hrel
    have hk' : k = 0 ∨ k = 1 ∨ k = 2 ∨ k = 3 := by omega
    rcases hk' with rfl | rfl | rfl | rfl
    · go_wp2
      exact ⟨⟨1, by omega, rfl⟩, by simp [intOf]⟩
    · go_wp2
      exact ⟨⟨2, by omega, rfl⟩, by simp [intOf]⟩
    · go_wp2
      exact ⟨⟨3, by omega, rfl⟩, by simp [intOf]⟩
    · go_wp2
      go_ret
      exact ⟨rfl, rfl⟩
set_option maxRecDepth 100000 in
theorem cpl_inf (w : World) : Calls Tryz.prog 146 #[.string ⟨#[105, 110, 102]⟩, .string ⟨#[105, 110, 102, 105, 110, 105, 116, 121]⟩] w fun e w' => e = .returned (.int .i64 3) ∧ w' = w := by
  go_enter Tryz.func146, Tryz.ntmps146
  go_wp2
  go_loop [6, 7] (fun i _ => ∃ k : Nat, k ≤ 3 ∧ i = .int .i64 (k : Int)) (fun i _ => 3 - (intOf i).toNat)
  case atStart => exact ⟨0, by omega, rfl⟩
  case round =>
    obtain ⟨k, hk, rfl⟩ := hrel
    have hk' : k = 0 ∨ k = 1 ∨ k = 2 ∨ k = 3 := by omega
    rcases hk' with rfl | rfl | rfl | rfl
    · go_wp2
      exact ⟨⟨1, by omega, rfl⟩, by simp [intOf]⟩
    · go_wp2
      exact ⟨⟨2, by omega, rfl⟩, by simp [intOf]⟩
    · go_wp2
      exact ⟨⟨3, by omega, rfl⟩, by simp [intOf]⟩
    · go_wp2
      go_ret
      exact ⟨rfl, rfl⟩
set_option maxRecDepth 100000 in
theorem pf_nan (w : World) : Calls Tryz.prog 71 #[.string ⟨#[110, 97, 110]⟩, .int .i64 64] w fun e w' => e = .returned (.tuple #[.float .f64 9221120237041090561, .nilIface]) ∧ w' = w := by
  go_enter Tryz.func71, Tryz.ntmps71
  go_wp2_with (first | (go_at_call 146; refine (cpl_nan _).mono ?_; rintro e w1 ⟨rfl, rfl⟩) | go_in)
  repeat (go_ret3; (try simp only []); go_wp2_with go_in)
  go_ret2
  exact ⟨rfl, rfl⟩
set_option maxRecDepth 100000 in
theorem pf_inf (w : World) : Calls Tryz.prog 71 #[.string ⟨#[105, 110, 102]⟩, .int .i64 64] w fun e w' => e = .returned (.tuple #[.float .f64 9218868437227405312, .nilIface]) ∧ w' = w := by
  go_enter Tryz.func71, Tryz.ntmps71
  go_wp2_with (first | (go_at_call 146; refine (cpl_inf _).mono ?_; rintro e w1 ⟨rfl, rfl⟩) | go_in)
  repeat (go_ret3; (try simp only []); go_wp2_with go_in)
  go_ret2
  exact ⟨rfl, rfl⟩
set_option maxRecDepth 100000 in
theorem pf_ninf (w : World) : Calls Tryz.prog 71 #[.string ⟨#[45, 105, 110, 102]⟩, .int .i64 64] w fun e w' => e = .returned (.tuple #[.float .f64 18442240474082181120, .nilIface]) ∧ w' = w := by
  have hx : (⟨#[45, 105, 110, 102]⟩ : ByteArray).extract 1 4 = ⟨#[105, 110, 102]⟩ := by decide
  go_enter Tryz.func71, Tryz.ntmps71
  go_wp2_with (first | (go_at_call 146; refine (cpl_inf _).mono ?_; rintro e w1 ⟨rfl, rfl⟩) | go_in)
  repeat (go_ret3; (try simp only []); go_wp2_with go_in)
  go_ret2
  exact ⟨rfl, rfl⟩
theorem right_n (w : World) : Calls Tryz.prog 62 #[.string (str [110, 97, 110])] w (RtP [110, 97, 110] w) := by
  refine Calls.mono (R := fun e w' => e = .returned (.tuple #[.float .f64 9221120237041090561, .bool true]) ∧ w' = w) ?_ (fun e w' ⟨h1, h2⟩ => ⟨_, _, h1, h2 ▸ But.refl _ _, by decide, fun _ => by decide +kernel, fun h => by cases h⟩)
  show Calls Tryz.prog 62 #[.string ⟨#[110, 97, 110]⟩] w _
  go_enter Tryz.func62, Tryz.ntmps62
  go_wp2_with (go_at_call 71; refine (pf_nan _).mono ?_; rintro e w1 ⟨rfl, rfl⟩)
  go_ret2
  exact ⟨rfl, rfl⟩
theorem right_i (w : World) : Calls Tryz.prog 62 #[.string (str [105, 110, 102])] w (RtP [105, 110, 102] w) := by
  refine Calls.mono (R := fun e w' => e = .returned (.tuple #[.float .f64 9218868437227405312, .bool true]) ∧ w' = w) ?_ (fun e w' ⟨h1, h2⟩ => ⟨_, _, h1, h2 ▸ But.refl _ _, by decide, fun _ => by decide +kernel, fun h => by cases h⟩)
  show Calls Tryz.prog 62 #[.string ⟨#[105, 110, 102]⟩] w _
  go_enter Tryz.func62, Tryz.ntmps62
  go_wp2_with (go_at_call 71; refine (pf_inf _).mono ?_; rintro e w1 ⟨rfl, rfl⟩)
  go_ret2
  exact ⟨rfl, rfl⟩
theorem right_m (w : World) : Calls Tryz.prog 62 #[.string (str [45, 105, 110, 102])] w (RtP [45, 105, 110, 102] w) := by
  refine Calls.mono (R := fun e w' => e = .returned (.tuple #[.float .f64 18442240474082181120, .bool true]) ∧ w' = w) ?_ (fun e w' ⟨h1, h2⟩ => ⟨_, _, h1, h2 ▸ But.refl _ _, by decide, fun _ => by decide +kernel, fun h => by cases h⟩)
  show Calls Tryz.prog 62 #[.string ⟨#[45, 105, 110, 102]⟩] w _
  go_enter Tryz.func62, Tryz.ntmps62
  go_wp2_with (go_at_call 71; refine (pf_ninf _).mono ?_; rintro e w1 ⟨rfl, rfl⟩)
  go_ret2
  exact ⟨rfl, rfl⟩
end Go.Proofs.YtnghppgpdeghfaaGreatDoor
