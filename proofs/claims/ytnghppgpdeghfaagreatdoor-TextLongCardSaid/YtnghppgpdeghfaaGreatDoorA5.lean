/- text.Write; the reader's small steps. -/
import Derived.Test.YtnghppgpdeghfaaGreatDoorA4
import Derived.Deep.QuietTactic
import Derived.BigQuiet
import Derived.Deep.CutRange
namespace Go.Proofs.YtnghppgpdeghfaaGreatDoor
open Go.RowKit Go.Proofs.YtnghppgpdeghfaaGreatDoor.Fl Go.Proofs.YtnghppgpdeghfaaGreatDoor.Pt Go.Proofs.YtnghppgpdeghfaaGreatDoor.Tx

theorem fl_len {b : Nat} (hb : b < 18446744073709551616) : (fl b).length ≤ 30 := by
  by_cases hf : fin b
  · obtain ⟨p1, p2, p3, _⟩ := parse hf
    have h1 := hexD_len 13 (cm b) (by omega)
    have h2 := itoa_len p2 p3
    rw [fl_fin hf]
    split <;> simp <;> omega
  · unfold fl
    split
    · simp
    · split
      · split <;> simp
      · rename_i h1 h2
        refine absurd ⟨hb, ?_⟩ hf
        unfold nan at h1
        simp at h1
        omega

set_option linter.unusedSimpArgs false in
set_option maxRecDepth 100000 in
set_option maxHeartbeats 1000000 in
theorem write_any (x y : Nat) (hx : x < 18446744073709551616) (hy : y < 18446744073709551616) (w : World) (hg : Gl w) : Calls Tryz.prog 11 #[.complex .f64 x y] w fun e w' => e = .returned (.string (str (num x y))) ∧ But [] w w' := by
  have l1 := fl_len hx
  have l2 := fl_len hy
  have e1 : (str (fl x)).size = (fl x).length := rfl
  have e2 : (str (fl y)).size = (fl y).length := rfl
  go_enter Tryz.func11, Tryz.ntmps11
  go_wp2_with (go_at_call 26; refine (float_any _ (by assumption) _ (by assumption)).mono ?_; rintro e w1 ⟨rfl, hb1⟩; have hg1 := Gl.keep (by assumption) hb1 (by simp))
  all_goals first | (exfalso; omega) | skip
  go_ret
  exact ⟨congrArg (fun s => Ending.returned (.string s)) (ByteArray.ext (by simp [str, num])), But.trans (by assumption) hb1⟩

/-- A reader stands at a in the text s. -/
def Rdr (w : World) (R : Nat) (s : ByteArray) (a : Nat) : Prop := w.heap[R]? = some (.cells #[.string s, .int .i64 (a : Int)] 70 (0, 0))
theorem Rdr.keep {w w' : World} {R a : Nat} {s : ByteArray} {qs : List Nat} (h : Rdr w R s a) (hb : But qs w w') (hq : R ∉ qs) : Rdr w' R s a := hb.heap h hq
theorem get_eq (s : ByteArray) (a : Nat) (h : a < s.size) : s.data.toList[a]? = some (s[a]'h) := by
  rw [List.getElem?_eq_getElem (by simpa using h)]; rfl

set_option linter.unusedSimpArgs false in
set_option maxRecDepth 100000 in
theorem sees_any (R a : Nat) (s : ByteArray) (c : UInt8) (w : World) (h : Rdr w R s a) : Calls Tryz.prog 32 #[.pointer (some ⟨R, 0, none⟩), .int .u8 (c.toNat : Int)] w fun e w' => e = .returned (.bool (decide (s.data.toList[a]? = some c))) ∧ But [] w w' := by
  have c0 : w.cell? ⟨R, 0, none⟩ = some (.string s) := by rw [cell_of_row w R 0 _ _ _ h]; rfl
  have c1 : w.cell? ⟨R, 1, none⟩ = some (.int .i64 (a : Int)) := by rw [cell_of_row w R 1 _ _ _ h]; rfl
  by_cases ha : a < s.size
  · have t1 : decide ((a : Int) < (s.size : Int)) = true := by simp; omega
    have hd : (((s[a]'ha).toNat : Int) == (c.toNat : Int)) = decide (s.data.toList[a]? = some c) := by
      rw [get_eq s a ha]
      by_cases e : s[a]'ha = c
      · rw [e]; simp
      · have : ¬ (s[a]'ha).toNat = c.toNat := fun e' => e (UInt8.toNat_inj.1 e')
        simp [e]; omega
    have HD := Lib.hid hd
    clear hd h
    go_enter Tryz.func32, Tryz.ntmps32
    go_wp2_with fail
    go_quiet (fail)
    go_wp2_with fail
    go_ret
    exact ⟨by simp [HD.out], (But.refl [] w).drewN nq⟩
  · have t1 : decide ((a : Int) < (s.size : Int)) = false := by simp; omega
    have hd : decide (s.data.toList[a]? = some c) = false := by rw [List.getElem?_eq_none (by simpa using ha)]; simp
    rw [hd]
    clear hd h
    go_enter Tryz.func32, Tryz.ntmps32
    go_wp2_with fail
    go_quiet (fail)
    go_wp2_with fail
    go_ret
    exact ⟨rfl, (But.refl [] w).drewN nq⟩
end Go.Proofs.YtnghppgpdeghfaaGreatDoor
