/- The reader's steps: fail, take, digits, signed, end. -/
import Derived.Test.YtnghppgpdeghfaaGreatDoorA5
namespace Go.Proofs.YtnghppgpdeghfaaGreatDoor
open Go.RowKit Go.Proofs.YtnghppgpdeghfaaGreatDoor.Fl Go.Proofs.YtnghppgpdeghfaaGreatDoor.Pt Go.Proofs.YtnghppgpdeghfaaGreatDoor.Tx

/-- A fault: its place and its error. -/
def Fa (p : Nat) (c : Int) : Ending := .panicked [{ v := .iface 73 (.agg #[.int .i64 (p : Int), .int .i64 c]), recovered := false }]

theorem fail_any (R a : Nat) (s : ByteArray) (w : World) (h : Rdr w R s a) : Calls Tryz.prog 58 #[.pointer (some ⟨R, 0, none⟩)] w fun e w' => e = Fa a 12 ∧ w' = w := by
  have c1 : w.cell? ⟨R, 1, none⟩ = some (.int .i64 (a : Int)) := by rw [cell_of_row w R 1 _ _ _ h]; rfl
  clear h
  go_enter Tryz.func58, Tryz.ntmps58
  go_wp2
  exact ⟨rfl, rfl, rfl⟩
/-- One byte on. -/
theorem Rdr.step {w : World} {R a : Nat} {s : ByteArray} (h : Rdr w R s a) (b : Nat) : Rdr (w.setCell ⟨R, 1, none⟩ (.int .i64 (b : Int))) R s b := blk_set _ _ _ _ _ _ h
theorem Rdr.cells {w : World} {R a : Nat} {s : ByteArray} (h : Rdr w R s a) : w.cell? ⟨R, 0, none⟩ = some (.string s) ∧ w.cell? ⟨R, 1, none⟩ = some (.int .i64 (a : Int)) ∧ w.frozen? ⟨R, 1, none⟩ = false :=
  ⟨by rw [cell_of_row w R 0 _ _ _ h]; rfl, by rw [cell_of_row w R 1 _ _ _ h]; rfl, blk_free h⟩

set_option linter.unusedSimpArgs false in
set_option maxRecDepth 100000 in
theorem take_any (R a : Nat) (s : ByteArray) (t : List UInt8) (ht : t.length ≤ 100) (hs : s.size ≤ 4294967280) (ha : a ≤ s.size) (w : World) (h : Rdr w R s a) : Calls Tryz.prog 28 #[.pointer (some ⟨R, 0, none⟩), .string (str t)] w fun e w' => But [R] w w' ∧ ((∃ b, tk s.data.toList t a = (true, b) ∧ e = .returned (.tuple #[]) ∧ Rdr w' R s b) ∨ (∃ b, tk s.data.toList t a = (false, b) ∧ e = Fa b 12)) := by
  have hsz : (str t).size = t.length := rfl
  go_enter Tryz.func28, Tryz.ntmps28
  go_wp2
  go_loopw [4, 7] (fun _ i wr => ∃ k : Nat, k ≤ t.length ∧ i = .int .i64 (k : Int) ∧ Rdr wr R s (a + k) ∧ But [R] w wr ∧ Hid (tk s.data.toList t a = tk s.data.toList (t.drop k) (a + k)) ∧ a + k ≤ s.size) (fun _ i _ => t.length - (intOf i).toNat)
  case atStart => exact ⟨0, Nat.zero_le _, rfl, h, But.refl _ _, Lib.hid (by simp), by omega⟩
  case round =>
    obtain ⟨k, hk, rfl, hr, hb, hT, hak⟩ := hrel
    by_cases hlt : k < t.length
    · have t1 : decide ((k : Int) < (t.length : Int)) = true := by simp; omega
      obtain ⟨c, hc⟩ : ∃ c, t[k]? = some c := ⟨_, List.getElem?_eq_getElem hlt⟩
      have hget : ∀ hp, (str t)[k]'hp = c := fun hp => by
        have := List.getElem?_eq_getElem hlt
        rw [hc] at this
        exact (Option.some.inj this).symm
      have hdr : t.drop k = c :: t.drop (k + 1) := by
        obtain ⟨_, he⟩ := List.getElem?_eq_some_iff.1 hc
        rw [List.drop_eq_getElem_cons hlt, he]
      have hT' := hT.out
      rw [hdr, tk] at hT'
      by_cases hy : s.data.toList[a + k]? = some c
      · rw [if_pos hy] at hT'
        have HT := Lib.hid hT'
        have hlt2 : a + k < s.size := by
          have := (List.getElem?_eq_some_iff.1 hy).1
          simpa using this
        have hdy : decide (s.data.toList[a + k]? = some c) = true := decide_eq_true hy
        have e1 : IntKind.i64.wrap (((a + k : Nat) : Int) + 1) = ((a + k + 1 : Nat) : Int) := by rw [IntKind.wrap_i64]; omega
        generalize hA : a + k = A at *
        have HR := Lib.hid hr
        clear hT' hr hy hdr hc
        go_wp2_with (go_at_call 32; refine (sees_any R A s c _ HR.out).mono ?_; rintro e w1 ⟨rfl, hb1⟩; rw [hdy]; have hr1 := HR.out.keep hb1 (by simp); obtain ⟨z0, z1, z2⟩ := hr1.cells)
        have hst := hr1.step (A + 1)
        exact ⟨⟨k + 1, by omega, by go_num, by rw [show a + (k + 1) = A + 1 by omega]; exact hst, (hb.trans (hb1.weak (by simp))).setCell _ _ (.inl (by simp)), by rw [show a + (k + 1) = A + 1 by omega]; exact HT, by omega⟩, by simp [intOf]; omega⟩
      · rw [if_neg hy] at hT'
        have HT := Lib.hid hT'
        have hdy : decide (s.data.toList[a + k]? = some c) = false := decide_eq_false hy
        generalize hA : a + k = A at *
        have HR := Lib.hid hr
        clear hT' hr hy hdr hc
        go_wp2_with (first | (go_at_call 32; refine (sees_any R A s c _ HR.out).mono ?_; rintro e w1 ⟨rfl, hb1⟩; rw [hdy]; have hr1 := HR.out.keep hb1 (by simp)) | (go_at_call 58; refine (fail_any R A s _ hr1).mono ?_; rintro e w2 ⟨he, rfl⟩; subst he; simp only [Fa]))
        exact ⟨rfl, hb.trans (hb1.weak (by simp)), .inr ⟨A, HT.out, rfl⟩⟩
    · obtain rfl : k = t.length := by omega
      have t1 : decide ((t.length : Int) < (t.length : Int)) = false := by simp
      have hT' := hT.out
      rw [List.drop_length, tk] at hT'
      have HT := Lib.hid hT'
      clear hT'
      go_wp2
      go_end0
      exact ⟨hb, .inl ⟨_, HT.out, rfl, hr⟩⟩
end Go.Proofs.YtnghppgpdeghfaaGreatDoor
