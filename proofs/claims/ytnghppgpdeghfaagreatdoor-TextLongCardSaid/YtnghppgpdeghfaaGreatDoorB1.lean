/- The reference's digits. -/
import Derived.Test.YtnghppgpdeghfaaGreatDoorA18
import Derived.Laws.IdiomStrings
namespace Go.Proofs.YtnghppgpdeghfaaGreatDoor
open Go.RowKit Go.Proofs.YtnghppgpdeghfaaGreatDoor.Fl Go.Proofs.YtnghppgpdeghfaaGreatDoor.Pt Go.Proofs.YtnghppgpdeghfaaGreatDoor.Tx

theorem rdig_get (d : Nat) (h : d < 16) : ∀ hp, ({ data := #[48, 49, 50, 51, 52, 53, 54, 55, 56, 57, 97, 98, 99, 100, 101, 102] } : ByteArray)[d]'hp = hc d := by
  intro hp
  have : ∀ d : Fin 16, ({ data := #[48, 49, 50, 51, 52, 53, 54, 55, 56, 57, 97, 98, 99, 100, 101, 102] } : ByteArray)[d.val]'(by have := d.isLt; exact this) = hc d.val := by decide
  exact this ⟨d, h⟩
theorem one_byte (W : World) (c : UInt8) : (convert 32 9 (.slice (some ⟨W.heap.size, 0, none⟩) 1 1)).run Tryz.prog (W.alloc (.cells #[.int .u8 (c.toNat : Int)] 5)) = .ok (.string ⟨#[c]⟩) (W.alloc (.cells #[.int .u8 (c.toNat : Int)] 5)) := by
  have := run_convert_bytes_back (P := Tryz.prog) (W.alloc (.cells #[.int .u8 (c.toNat : Int)] 5)) 32 9 5 ⟨W.heap.size, 0, none⟩ 1 [c] (by kernel_rfl) (by kernel_rfl) (by kernel_rfl) (fun j hj => by
    obtain rfl : j = 0 := by simp at hj; omega
    exact World.cell?_alloc_mark W _ _ _ 0)
  exact this

set_option linter.unusedSimpArgs false in
set_option maxRecDepth 100000 in
set_option maxHeartbeats 2000000 in
theorem rdig16 (n : Nat) : ∀ W : World, n < 18446744073709551616 → Calls Tryz.prog 121 #[.int .u64 (n : Int), .int .u64 16] W fun e w' => e = .returned (.string (str (hexD n))) ∧ But [] W w' := by
  induction n using Nat.strongRecOn with
  | _ n ih =>
    intro W hn
    have hd : n % 16 < 16 := by omega
    have hget := rdig_get (n % 16) hd
    have hcv := one_byte W (hc (n % 16))
    by_cases h : n < 16
    · have t1 : decide ((n : Int) < 16) = true := by simp; omega
      have hF := Lib.hid ((hexD_small h).trans (by rw [Nat.mod_eq_of_lt h]) : hexD n = [hc (n % 16)])
      clear ih
      go_enter Tryz.func121, Tryz.ntmps121
      go_wp2_with fail
      go_ret
      exact ⟨by rw [hF.out]; rfl, (But.refl _ _).alloc _⟩
    · have t1 : decide ((n : Int) < 16) = false := by simp; omega
      have hk : ∀ W : World, Calls Tryz.prog 121 #[.int .u64 ((n : Int) / 16), .int .u64 16] W fun e w' => e = .returned (.string (str (hexD (n / 16)))) ∧ But [] W w' := fun W => by
        have := ih (n / 16) (by omega) W (by omega)
        rwa [show ((n / 16 : Nat) : Int) = (n : Int) / 16 by omega] at this
      have hF := Lib.hid (hexD_big h : hexD n = hexD (n / 16) ++ [hc (n % 16)])
      clear ih
      have hl : (hexD (n / 16)).length ≤ 20 := hexD_len 19 _ (by omega)
      have hl2 : (str (hexD (n / 16))).size ≤ 20 := hl
      go_enter Tryz.func121, Tryz.ntmps121
      go_wp2_with (go_at_call 121; refine (hk _).mono ?_; rintro e w1 ⟨rfl, hb⟩)
      all_goals first | (exfalso; omega) | skip
      go_ret
      exact ⟨by rw [hF.out]; exact congrArg (fun s => Ending.returned (.string s)) (ByteArray.ext (by simp [str])), ((But.refl _ W).alloc _).trans hb⟩

set_option linter.unusedSimpArgs false in
set_option maxRecDepth 100000 in
set_option maxHeartbeats 2000000 in
theorem rdig10 (n : Nat) : ∀ W : World, n < 18446744073709551616 → Calls Tryz.prog 121 #[.int .u64 (n : Int), .int .u64 10] W fun e w' => e = .returned (.string (str (Lib.decDigits n))) ∧ But [] W w' := by
  induction n using Nat.strongRecOn with
  | _ n ih =>
    intro W hn
    have hd : n % 10 < 16 := by omega
    have hget := rdig_get (n % 10) hd
    have hcv := one_byte W (hc (n % 10))
    by_cases h : n < 10
    · have t1 : decide ((n : Int) < 10) = true := by simp; omega
      have hF := Lib.hid ((dd_small h).trans (by rw [Nat.mod_eq_of_lt h, hc, if_pos h]) : Lib.decDigits n = [hc (n % 10)])
      clear ih
      go_enter Tryz.func121, Tryz.ntmps121
      go_wp2_with fail
      go_ret
      exact ⟨by rw [hF.out]; rfl, (But.refl _ _).alloc _⟩
    · have t1 : decide ((n : Int) < 10) = false := by simp; omega
      have hk : ∀ W : World, Calls Tryz.prog 121 #[.int .u64 ((n : Int) / 10), .int .u64 10] W fun e w' => e = .returned (.string (str (Lib.decDigits (n / 10)))) ∧ But [] W w' := fun W => by
        have := ih (n / 10) (by omega) W (by omega)
        rwa [show ((n / 10 : Nat) : Int) = (n : Int) / 10 by omega] at this
      have hF := Lib.hid ((dd_big h).trans (by rw [hc, if_pos (by omega)]) : Lib.decDigits n = Lib.decDigits (n / 10) ++ [hc (n % 10)])
      clear ih
      have hl : (Lib.decDigits (n / 10)).length ≤ 20 := dd_len 19 _ (by omega)
      have hl2 : (str (Lib.decDigits (n / 10))).size ≤ 20 := hl
      go_enter Tryz.func121, Tryz.ntmps121
      go_wp2_with (go_at_call 121; refine (hk _).mono ?_; rintro e w1 ⟨rfl, hb⟩)
      all_goals first | (exfalso; omega) | skip
      go_ret
      exact ⟨by rw [hF.out]; exact congrArg (fun s => Ending.returned (.string s)) (ByteArray.ext (by simp [str])), ((But.refl _ W).alloc _).trans hb⟩

end Go.Proofs.YtnghppgpdeghfaaGreatDoor
