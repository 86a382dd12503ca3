/- The reference's reader: fail, is, digit, hexValue, want, end. -/
import Derived.Test.YtnghppgpdeghfaaGreatDoorB1
namespace Go.Proofs.YtnghppgpdeghfaaGreatDoor
open Go.RowKit Go.Proofs.YtnghppgpdeghfaaGreatDoor.Fl Go.Proofs.YtnghppgpdeghfaaGreatDoor.Pt Go.Proofs.YtnghppgpdeghfaaGreatDoor.Tx

/-- The reference's reader in memory: its text, where it stands, its first fault and the fault's place. -/
def Rr (w : World) (Q : Nat) (s : ByteArray) (a : Nat) (e : Nat) (p : Nat) : Prop := w.heap[Q]? = some (.cells #[.string s, .int .i64 (a : Int), .int .i64 (e : Int), .int .i64 (p : Int)] 60 (0, 0))
theorem Rr.keep {w w' : World} {Q a e p : Nat} {s : ByteArray} {qs : List Nat} (h : Rr w Q s a e p) (hb : But qs w w') (hq : Q ∉ qs) : Rr w' Q s a e p := hb.heap h hq
theorem Rr.cells {w : World} {Q a e p : Nat} {s : ByteArray} (h : Rr w Q s a e p) : w.cell? ⟨Q, 0, none⟩ = some (.string s) ∧ w.cell? ⟨Q, 1, none⟩ = some (.int .i64 (a : Int)) ∧ w.cell? ⟨Q, 2, none⟩ = some (.int .i64 (e : Int)) ∧ w.cell? ⟨Q, 3, none⟩ = some (.int .i64 (p : Int)) ∧ (∀ i, w.frozen? ⟨Q, i, none⟩ = false) :=
  ⟨by rw [cell_of_row w Q 0 _ _ _ h]; rfl, by rw [cell_of_row w Q 1 _ _ _ h]; rfl, by rw [cell_of_row w Q 2 _ _ _ h]; rfl, by rw [cell_of_row w Q 3 _ _ _ h]; rfl, fun _ => blk_free h⟩
theorem Rr.step {w : World} {Q a e p : Nat} {s : ByteArray} (h : Rr w Q s a e p) (b : Nat) : Rr (w.setCell ⟨Q, 1, none⟩ (.int .i64 (b : Int))) Q s b e p := blk_set _ _ _ _ _ _ h
theorem Rr.fault {w : World} {Q a e p : Nat} {s : ByteArray} (h : Rr w Q s a e p) (e' p' : Nat) : Rr ((w.setCell ⟨Q, 2, none⟩ (.int .i64 (e' : Int))).setCell ⟨Q, 3, none⟩ (.int .i64 (p' : Int))) Q s a e' p' := blk_set _ _ _ _ _ _ (blk_set _ _ _ _ _ _ h)

set_option linter.unusedSimpArgs false in
set_option maxRecDepth 100000 in
set_option maxHeartbeats 2000000 in
theorem rfail_on (Q a p e' p' : Nat) (s : ByteArray) (w : World) (h : Rr w Q s a 0 p) : Calls Tryz.prog 43 #[.pointer (some ⟨Q, 0, none⟩), .int .i64 (e' : Int), .int .i64 (p' : Int)] w fun e w' => e = .returned (.tuple #[]) ∧ Rr w' Q s a e' p' ∧ But [Q] w w' := by
  obtain ⟨c0, c1, c2, c3, cf⟩ := h.cells
  have f2 := cf 2
  have f3 := cf 3
  obtain ⟨d0, d1, d2, d3, df⟩ := (show Rr (w.setCell ⟨Q, 2, none⟩ (.int .i64 (e' : Int))) Q s a e' p from blk_set _ _ _ _ _ _ h).cells
  have g3 := df 3
  have hf := Lib.hid (h.fault e' p')
  clear h cf df
  go_enter Tryz.func43, Tryz.ntmps43
  go_wp2_with fail
  go_end0
  exact ⟨rfl, hf.out, ((But.refl _ _).setCell _ _ (.inl (by simp))).setCell _ _ (.inl (by simp))⟩
set_option linter.unusedSimpArgs false in
set_option maxRecDepth 100000 in
set_option maxHeartbeats 2000000 in
theorem rfail_off (Q a e p e' p' : Nat) (he : ((e : Int) == 0) = false) (s : ByteArray) (w : World) (h : Rr w Q s a e p) : Calls Tryz.prog 43 #[.pointer (some ⟨Q, 0, none⟩), .int .i64 (e' : Int), .int .i64 (p' : Int)] w fun e w' => e = .returned (.tuple #[]) ∧ w' = w := by
  obtain ⟨c0, c1, c2, c3, cf⟩ := h.cells
  clear h cf
  go_enter Tryz.func43, Tryz.ntmps43
  go_wp2_with fail
  go_end0
  exact ⟨rfl, rfl⟩
set_option linter.unusedSimpArgs false in
set_option maxRecDepth 100000 in
set_option maxHeartbeats 2000000 in
theorem rdigit (c : UInt8) (hex v : Bool) (hv : (if hex then isH c else isD c) = v) (w : World) : Calls Tryz.prog 98 #[.int .u8 (c.toNat : Int), .bool hex] w fun e w' => e = .returned (.bool v) ∧ w' = w := by
  obtain ⟨n, hn⟩ : ∃ n, n = c.toNat := ⟨_, rfl⟩
  have hF := Lib.hid (show v = ((decide (48 ≤ n) && decide (n ≤ 57)) || (hex && (decide (97 ≤ n) && decide (n ≤ 102)))) by rw [hn, ← hv]; cases hex <;> simp [isH, isD])
  rw [← hn]
  clear hn hv
  by_cases h1 : 48 ≤ n
  · by_cases h2 : n ≤ 57
    · have t1 : decide (48 ≤ (n : Int)) = true := by simp; omega
      have t2 : decide ((n : Int) ≤ 57) = true := by simp; omega
      have hr := Lib.hid (show v = true by rw [hF.out]; simp [h1, h2])
      clear hF h1 h2
      go_enter Tryz.func98, Tryz.ntmps98
      go_wp2_with fail
      go_ret
      exact ⟨by rw [hr.out]; rfl, rfl⟩
    · have t1 : decide (48 ≤ (n : Int)) = true := by simp; omega
      have t2 : decide ((n : Int) ≤ 57) = false := by simp; omega
      cases hex
      · have hr := Lib.hid (show v = false by have := hF.out; simpa [h1, h2] using this)
        clear hF h1 h2
        go_enter Tryz.func98, Tryz.ntmps98
        go_wp2_with fail
        go_ret
        exact ⟨by rw [hr.out]; rfl, rfl⟩
      · by_cases h3 : 97 ≤ n
        · have t3 : decide (97 ≤ (n : Int)) = true := by simp; omega
          by_cases h4 : n ≤ 102
          · have t4 : decide ((n : Int) ≤ 102) = true := by simp; omega
            have hr := Lib.hid (show v = true by have := hF.out; simpa [h1, h2, h3, h4] using this)
            clear hF h1 h2 h3 h4
            go_enter Tryz.func98, Tryz.ntmps98
            go_wp2_with fail
            go_ret
            exact ⟨by rw [hr.out]; rfl, rfl⟩
          · have t4 : decide ((n : Int) ≤ 102) = false := by simp; omega
            have hr := Lib.hid (show v = false by have := hF.out; simpa [h1, h2, h3, h4] using this)
            clear hF h1 h2 h3 h4
            go_enter Tryz.func98, Tryz.ntmps98
            go_wp2_with fail
            go_ret
            exact ⟨by rw [hr.out]; rfl, rfl⟩
        · have t3 : decide (97 ≤ (n : Int)) = false := by simp; omega
          have hr := Lib.hid (show v = false by have := hF.out; simpa [h1, h2, h3] using this)
          clear hF h1 h2 h3
          go_enter Tryz.func98, Tryz.ntmps98
          go_wp2_with fail
          go_ret
          exact ⟨by rw [hr.out]; rfl, rfl⟩
  · have t1 : decide (48 ≤ (n : Int)) = false := by simp; omega
    have t3 : decide (97 ≤ (n : Int)) = false := by simp; omega
    have hr := Lib.hid (show v = false by rw [hF.out]; simp; omega)
    clear hF h1
    cases hex
    all_goals
      go_enter Tryz.func98, Tryz.ntmps98
      go_wp2_with fail
      go_ret
      exact ⟨by rw [hr.out]; rfl, rfl⟩
set_option linter.unusedSimpArgs false in
set_option maxRecDepth 100000 in
set_option maxHeartbeats 2000000 in
theorem rhexv (c : UInt8) (hc : isH c = true) (w : World) : Calls Tryz.prog 99 #[.int .u8 (c.toNat : Int)] w fun e w' => e = .returned (.int .u64 (hv c : Int)) ∧ w' = w := by
  obtain ⟨n, hn⟩ : ∃ n, n = c.toNat := ⟨_, rfl⟩
  have hF := Lib.hid (show hv c = if 97 ≤ n then n - 87 else n - 48 by rw [hn]; rfl)
  have hb : 48 ≤ n ∧ n ≤ 102 := by unfold isH at hc; simp at hc; omega
  rw [← hn]
  clear hn hc
  by_cases h1 : 97 ≤ n
  · have t1 : decide (97 ≤ (n : Int)) = true := by simp; omega
    have t2 : IntKind.u8.wrap ((n : Int) - 97) = ((n - 97 : Nat) : Int) := by rw [IntKind.wrap_u8]; omega
    have hr := Lib.hid (show ((hv c : Nat) : Int) = ((n - 97 : Nat) : Int) + 10 by rw [hF.out, if_pos h1]; omega)
    clear hF
    go_enter Tryz.func99, Tryz.ntmps99
    go_wp2_with fail
    go_ret
    exact ⟨ri (by have := hr.out; omega), rfl⟩
  · have t1 : decide (97 ≤ (n : Int)) = false := by simp; omega
    have t2 : IntKind.u8.wrap ((n : Int) - 48) = ((n - 48 : Nat) : Int) := by rw [IntKind.wrap_u8]; omega
    have hr := Lib.hid (show ((hv c : Nat) : Int) = ((n - 48 : Nat) : Int) by rw [hF.out, if_neg h1])
    clear hF
    go_enter Tryz.func99, Tryz.ntmps99
    go_wp2_with fail
    go_ret
    exact ⟨ri (by have := hr.out; omega), rfl⟩
end Go.Proofs.YtnghppgpdeghfaaGreatDoor
