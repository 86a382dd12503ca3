/- The reference's reader: is, want, end. -/
import Derived.Test.YtnghppgpdeghfaaGreatDoorB3
namespace Go.Proofs.YtnghppgpdeghfaaGreatDoor
open Go.RowKit Go.Proofs.YtnghppgpdeghfaaGreatDoor.Fl Go.Proofs.YtnghppgpdeghfaaGreatDoor.Pt Go.Proofs.YtnghppgpdeghfaaGreatDoor.Tx

set_option linter.unusedSimpArgs false in
set_option maxRecDepth 100000 in
set_option maxHeartbeats 2000000 in
theorem ris_on (Q a p : Nat) (s : ByteArray) (c : UInt8) (x : Bool) (hx : decide (s.data.toList[a]? = some c) = x) (w : World) (h : Rr w Q s a 0 p) : Calls Tryz.prog 42 #[.pointer (some ⟨Q, 0, none⟩), .int .u8 (c.toNat : Int)] w fun e w' => e = .returned (.bool x) ∧ But [] w w' := by
  obtain ⟨c0, c1, c2, c3, cf⟩ := h.cells
  clear cf h
  by_cases ha : a < s.size
  · have t1 : decide ((a : Int) < (s.size : Int)) = true := by simp; omega
    have hd : (((s[a]'ha).toNat : Int) == (c.toNat : Int)) = x := by
      rw [← hx, get_eq s a ha]
      by_cases e : s[a]'ha = c
      · rw [e]; simp
      · have : ¬ (s[a]'ha).toNat = c.toNat := fun e' => e (UInt8.toNat_inj.1 e')
        simp [e]; omega
    have HD := Lib.hid hd
    clear hd hx
    go_enter Tryz.func42, Tryz.ntmps42
    go_wp2_with fail
    go_quiet (fail)
    go_wp2_with fail
    go_ret
    exact ⟨by simp [HD.out], (But.refl [] w).drewN nq⟩
  · have t1 : decide ((a : Int) < (s.size : Int)) = false := by simp; omega
    have hd : x = false := by rw [← hx, List.getElem?_eq_none (by simpa using ha)]; simp
    rw [hd]
    clear hd hx
    go_enter Tryz.func42, Tryz.ntmps42
    go_wp2_with fail
    go_quiet (fail)
    go_wp2_with fail
    go_ret
    exact ⟨rfl, (But.refl [] w).drewN nq⟩
set_option linter.unusedSimpArgs false in
set_option maxRecDepth 100000 in
set_option maxHeartbeats 2000000 in
theorem ris_off (Q a p f : Nat) (hf : ((f : Int) == 0) = false) (s : ByteArray) (c : UInt8) (w : World) (h : Rr w Q s a f p) : Calls Tryz.prog 42 #[.pointer (some ⟨Q, 0, none⟩), .int .u8 (c.toNat : Int)] w fun e w' => e = .returned (.bool false) ∧ But [] w w' := by
  obtain ⟨c0, c1, c2, c3, cf⟩ := h.cells
  clear cf h
  go_enter Tryz.func42, Tryz.ntmps42
  go_wp2_with fail
  go_quiet (fail)
  go_wp2_with fail
  go_ret
  exact ⟨rfl, (But.refl [] w).drewN nq⟩
abbrev EnA (b c : Nat) : Ending := .returned (.tuple #[.int .i64 (b : Int), .int .i64 (c : Int)])
set_option linter.unusedSimpArgs false in
set_option maxRecDepth 100000 in
set_option maxHeartbeats 2000000 in
theorem rend_off (Q a p f : Nat) (hf : ((f : Int) == 0) = false) (s : ByteArray) (w : World) (h : Rr w Q s a f p) : Calls Tryz.prog 24 #[.pointer (some ⟨Q, 0, none⟩)] w fun e w' => e = EnA p f ∧ But [] w w' := by
  obtain ⟨c0, c1, c2, c3, cf⟩ := h.cells
  clear cf h
  go_enter Tryz.func24, Tryz.ntmps24
  go_wp2_with fail
  go_quiet (fail)
  go_wp2_with fail
  go_quiet (fail)
  go_wp2_with fail
  exact bodyPost_ret (results_tmp2 rfl _ _ _) rfl ⟨rfl, ((But.refl [] w).drewN _).trans ((But.refl [] _).drewN _)⟩
set_option linter.unusedSimpArgs false in
set_option maxRecDepth 100000 in
set_option maxHeartbeats 2000000 in
theorem rend_full (Q a p : Nat) (s : ByteArray) (ha : a = s.size) (w : World) (h : Rr w Q s a 0 p) : Calls Tryz.prog 24 #[.pointer (some ⟨Q, 0, none⟩)] w fun e w' => e = EnA p 0 ∧ But [] w w' := by
  obtain ⟨c0, c1, c2, c3, cf⟩ := h.cells
  have t1 : ((a : Int) != (s.size : Int)) = false := by simp [ha]
  clear cf h ha
  go_enter Tryz.func24, Tryz.ntmps24
  go_wp2_with fail
  go_quiet (fail)
  go_wp2_with fail
  go_quiet (fail)
  go_wp2_with fail
  exact bodyPost_ret (results_tmp2 rfl _ _ _) rfl ⟨rfl, ((But.refl [] w).drewN _).trans ((But.refl [] _).drewN _)⟩
set_option linter.unusedSimpArgs false in
set_option maxRecDepth 100000 in
set_option maxHeartbeats 2000000 in
theorem rend_more (Q a p : Nat) (s : ByteArray) (ha : a < s.size) (w : World) (h : Rr w Q s a 0 p) : Calls Tryz.prog 24 #[.pointer (some ⟨Q, 0, none⟩)] w fun e w' => e = EnA a 12 ∧ But [Q] w w' := by
  obtain ⟨c0, c1, c2, c3, cf⟩ := h.cells
  have t1 : ((a : Int) != (s.size : Int)) = true := by simp; omega
  have hR := Lib.hid h
  clear cf h ha
  go_enter Tryz.func24, Tryz.ntmps24
  go_wp2_with fail
  go_quiet (fail)
  go_wp2_with (go_at_call 43; refine (rfail_on Q a p 12 a s _ (hR.out.keep ((But.refl [] w).drewN _) (by simp))).mono ?_; rintro e w2 ⟨rfl, hr2, hb2⟩; obtain ⟨z0, z1, z2, z3, zf⟩ := hr2.cells)
  go_quiet (fail)
  go_wp2_with fail
  exact bodyPost_ret (results_tmp2 rfl _ _ _) rfl ⟨rfl, (((But.refl [Q] w).drewN _).trans hb2).trans ((But.refl [Q] _).drewN _)⟩
set_option linter.unusedSimpArgs false in
set_option maxRecDepth 100000 in
set_option maxHeartbeats 2000000 in
theorem rwant_off (Q a p f : Nat) (hf : ((f : Int) == 0) = false) (s : ByteArray) (t : List UInt8) (ht : t.length ≤ 100) (w : World) (h : Rr w Q s a f p) : Calls Tryz.prog 34 #[.pointer (some ⟨Q, 0, none⟩), .string (str t)] w fun e w' => e = .returned (.tuple #[]) ∧ But [] w w' := by
  obtain ⟨c0, c1, c2, c3, cf⟩ := h.cells
  have hsz : (str t).size = t.length := rfl
  clear cf h
  go_enter Tryz.func34, Tryz.ntmps34
  go_wp2_with fail
  go_loopw [4] (fun i wr => i = .int .i64 0 ∧ wr = w) (fun i _ => 0)
  case atStart => exact ⟨rfl, rfl⟩
  case round =>
    obtain ⟨rfl, hw⟩ := hrel
    rw [hw]
    clear hw
    by_cases h0 : 0 < t.length
    · have t1 : decide ((0 : Int) < (t.length : Int)) = true := decide_eq_true (by omega)
      go_wp2_with fail
      go_end0
      exact ⟨rfl, But.refl _ _⟩
    · have t1 : decide ((0 : Int) < (t.length : Int)) = false := decide_eq_false (by omega)
      go_wp2_with fail
      go_end0
      exact ⟨rfl, But.refl _ _⟩
set_option linter.unusedSimpArgs false in
set_option maxRecDepth 100000 in
set_option maxHeartbeats 2000000 in
theorem rwant_on (Q a : Nat) (s : ByteArray) (t : List UInt8) (ht : t.length ≤ 100) (hs : s.size ≤ 65536) (ha : a ≤ s.size) (w : World) (h : Rr w Q s a 0 0) : Calls Tryz.prog 34 #[.pointer (some ⟨Q, 0, none⟩), .string (str t)] w fun e w' => e = .returned (.tuple #[]) ∧ But [Q] w w' ∧ ((∃ b, tk s.data.toList t a = (true, b) ∧ Rr w' Q s b 0 0) ∨ (∃ b, tk s.data.toList t a = (false, b) ∧ Rr w' Q s b 12 b)) := by
  have hsz : (str t).size = t.length := rfl
  go_enter Tryz.func34, Tryz.ntmps34
  go_wp2_with fail
  go_loopw [4] (fun i wr => ∃ k : Nat, k ≤ t.length ∧ i = .int .i64 (k : Int) ∧ Rr wr Q s (a + k) 0 0 ∧ But [Q] w wr ∧ Hid (tk s.data.toList t a = tk s.data.toList (t.drop k) (a + k)) ∧ a + k ≤ s.size) (fun i _ => t.length - (intOf i).toNat)
  case atStart => exact ⟨0, Nat.zero_le _, rfl, h, But.refl _ _, Lib.hid (by simp), by omega⟩
  case round =>
    obtain ⟨k, hk, rfl, hr, hb, hT, hak⟩ := hrel
    obtain ⟨c0, c1, c2, c3, cf⟩ := hr.cells
    have f1 := cf 1
    clear cf
    by_cases hlt : k < t.length
    · have t1 : decide ((k : Int) < (t.length : Int)) = true := by simp; omega
      obtain ⟨c, hc⟩ : ∃ c, t[k]? = some c := ⟨_, List.getElem?_eq_getElem hlt⟩
      have hget : ∀ hp, (str t)[k]'hp = c := fun hp => by
        have := List.getElem?_eq_getElem hlt
        rw [hc] at this
        exact (Option.some.inj this).symm
      have hdr : t.drop k = c :: t.drop (k + 1) := by
        obtain ⟨_, he⟩ := List.getElem?_eq_some_iff.1 hc
        rw [List.drop_eq_getElem_cons hlt, he]
      have hT' := hT.out
      rw [hdr, tk] at hT'
      by_cases hy : s.data.toList[a + k]? = some c
      · rw [if_pos hy] at hT'
        have HT := Lib.hid hT'
        have hlt2 : a + k < s.size := by
          have := (List.getElem?_eq_some_iff.1 hy).1
          simpa using this
        have hdy : decide (s.data.toList[a + k]? = some c) = true := decide_eq_true hy
        have e1 : IntKind.i64.wrap (((a + k : Nat) : Int) + 1) = ((a + k + 1 : Nat) : Int) := by rw [IntKind.wrap_i64]; omega
        generalize hA : a + k = A at *
        have HR := Lib.hid hr
        clear hT' hr hy hdr hc
        go_wp2_with (go_at_call 42; refine (ris_on Q A 0 s c true hdy _ HR.out).mono ?_; rintro e w1 ⟨rfl, hb1⟩; have hr1 := HR.out.keep hb1 (by simp); obtain ⟨z0, z1, z2, z3, zf⟩ := hr1.cells; have zf1 := zf 1; clear zf)
        have hst := hr1.step (A + 1)
        exact ⟨⟨k + 1, by omega, by go_num, by rw [show a + (k + 1) = A + 1 by omega]; exact hst, (hb.trans (hb1.weak (by simp))).setCell _ _ (.inl (by simp)), by rw [show a + (k + 1) = A + 1 by omega]; exact HT, by omega⟩, by simp [intOf]; omega⟩
      · rw [if_neg hy] at hT'
        have HT := Lib.hid hT'
        have hdy : decide (s.data.toList[a + k]? = some c) = false := decide_eq_false hy
        generalize hA : a + k = A at *
        have HR := Lib.hid hr
        clear hT' hr hy hdr hc
        go_wp2_with (first | (go_at_call 42; refine (ris_on Q A 0 s c false hdy _ HR.out).mono ?_; rintro e w1 ⟨rfl, hb1⟩; have hr1 := HR.out.keep hb1 (by simp); obtain ⟨z0, z1, z2, z3, zf⟩ := hr1.cells) | (go_at_call 43; refine (rfail_on Q A 0 12 A s _ hr1).mono ?_; rintro e w2 ⟨rfl, hr2, hb2⟩))
        refine bodyPost_ret (results_none rfl _ _ _) rfl ?_
        exact ⟨rfl, (hb.trans (hb1.weak (by simp))).trans hb2, .inr ⟨A, HT.out, hr2⟩⟩
    · obtain rfl : k = t.length := by omega
      have t1 : decide ((t.length : Int) < (t.length : Int)) = false := by simp
      have hT' := hT.out
      rw [List.drop_length, tk] at hT'
      have HT := Lib.hid hT'
      clear hT'
      go_wp2
      go_end0
      exact ⟨rfl, hb, .inl ⟨_, HT.out, hr⟩⟩
end Go.Proofs.YtnghppgpdeghfaaGreatDoor
