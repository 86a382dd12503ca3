/- The reader's steps: digits. -/
import Derived.Test.YtnghppgpdeghfaaGreatDoorA6
namespace Go.Proofs.YtnghppgpdeghfaaGreatDoor
open Go.RowKit Go.Proofs.YtnghppgpdeghfaaGreatDoor.Fl Go.Proofs.YtnghppgpdeghfaaGreatDoor.Pt Go.Proofs.YtnghppgpdeghfaaGreatDoor.Tx

def atOf (R : Nat) (w : World) : Nat := (intOf ((w.cell? ⟨R, 1, none⟩).getD undef)).toNat
theorem Rdr.at {w : World} {R a : Nat} {s : ByteArray} (h : Rdr w R s a) : atOf R w = a := by unfold atOf; rw [h.cells.2.1]; simp [intOf]
def ofH : List UInt8 := [48, 49, 50, 51, 52, 53, 54, 55, 56, 57, 97, 98, 99, 100, 101, 102]
def ofD : List UInt8 := [48, 49, 50, 51, 52, 53, 54, 55, 56, 57]
theorem ofH_all : ∀ n, n < 256 → decide (Lib.indexByte ofH (UInt8.ofNat n) < 0) = !isH (UInt8.ofNat n) := by decide +kernel
theorem ofD_all : ∀ n, n < 256 → decide (Lib.indexByte ofD (UInt8.ofNat n) < 0) = !isD (UInt8.ofNat n) := by decide +kernel
theorem ofH_p (c : UInt8) : decide (Lib.indexByte ofH c < 0) = !isH c := by have := ofH_all c.toNat c.toNat_lt; rwa [UInt8.ofNat_toNat] at this
theorem ofD_p (c : UInt8) : decide (Lib.indexByte ofD c < 0) = !isD c := by have := ofD_all c.toNat c.toNat_lt; rwa [UInt8.ofNat_toNat] at this

set_option linter.unusedSimpArgs false in
set_option maxRecDepth 100000 in
set_option maxHeartbeats 1000000 in
theorem digits_any (p : UInt8 → Bool) (of : List UInt8) (hof : ∀ c : UInt8, decide (Lib.indexByte of c < 0) = !p c) (R a : Nat) (s : ByteArray) (hs : s.size ≤ 4294967280) (ha : a ≤ s.size) (w : World) (h : Rdr w R s a) : Calls Tryz.prog 70 #[.pointer (some ⟨R, 0, none⟩), .string (str of)] w fun e w' => But [R] w w' ∧ ((∃ b, dg p s.data.toList a = (true, b) ∧ e = .returned (.tuple #[]) ∧ Rdr w' R s b) ∨ (∃ b, dg p s.data.toList a = (false, b) ∧ e = Fa b 12)) := by
  obtain ⟨c0, c1, cz⟩ := h.cells
  have HOF := Lib.hid hof
  clear hof
  by_cases hlt : a < s.size
  · obtain ⟨c, hc, hget⟩ : ∃ c : UInt8, s.data.toList[a]? = some c ∧ s[a]'hlt = c := ⟨_, get_eq s a hlt, rfl⟩
    have t1 : decide ((s.size : Int) ≤ (a : Int)) = false := by simp; omega
    have hidx := HOF.out c
    have hcc : ((c.toNat : Int)).toNat.toUInt8 = c := by simp
    have hso : (str of).data.toList = of := by simp [str]
    cases hp : p c
    · have hdg : dg p s.data.toList a = (false, a) := by unfold dg; rw [hc]; simp [hp]
      rw [hp] at hidx
      have HDG := Lib.hid hdg
      have HR := Lib.hid h
      clear hdg h hc
      go_enter Tryz.func70, Tryz.ntmps70
      go_wp2_with fail
      go_quiet ((go_at_call 88; exact Calls.quiet_of_same (Tryz.strings_IndexByte _ _ _)))
      go_wp2_with (go_at_call 58; refine (fail_any R a s _ (HR.out.keep ((But.refl [] w).drewN _) (by simp))).mono ?_; rintro e w2 ⟨he, rfl⟩; subst he; simp only [Fa])
      exact ⟨rfl, (But.refl _ _).drewN _, .inr ⟨a, HDG.out, rfl⟩⟩
    · rw [hp] at hidx
      have HR := Lib.hid h
      by_cases h0 : c = 48
      · subst h0
        have hdg : dg p s.data.toList a = (true, a + 1) := by unfold dg; rw [hc]; show (if p 48 then _ else _) = _; rw [if_pos hp, if_pos rfl]
        have HDG := Lib.hid hdg
        have hdy : decide (s.data.toList[a]? = some 48) = true := decide_eq_true hc
        have e1 : IntKind.i64.wrap ((a : Int) + 1) = (a : Int) + 1 := by rw [IntKind.wrap_i64]; omega
        clear hdg h hc
        go_enter Tryz.func70, Tryz.ntmps70
        go_wp2_with fail
        go_quiet ((go_at_call 88; exact Calls.quiet_of_same (Tryz.strings_IndexByte _ _ _)))
        have hrq := HR.out.keep ((But.refl [] w).drewN nq) (by simp)
        go_wp2_with (go_at_call 32; refine (sees_any R a s 48 _ hrq).mono ?_; rintro e w1 ⟨rfl, hb1⟩; rw [hdy]; have hr1 := hrq.keep hb1 (by simp); obtain ⟨z0, z1, z2⟩ := hr1.cells)
        refine bodyPost_ret (results_none rfl _ _ _) rfl ?_
        exact ⟨(((But.refl _ _).drewN nq).trans (hb1.weak (by simp))).setCell _ _ (.inl (by simp)), .inl ⟨_, HDG.out, rfl, hr1.step (a + 1)⟩⟩
      · have hdg : dg p s.data.toList a = (true, rn p s.data.toList a) := by unfold dg; rw [hc]; show (if p c then _ else _) = _; rw [if_pos hp, if_neg h0]
        have HDG := Lib.hid hdg
        have hdy : decide (s.data.toList[a]? = some 48) = false := decide_eq_false (by rw [hc]; simp [h0])
        clear hdg h hc
        go_enter Tryz.func70, Tryz.ntmps70
        go_wp2_with fail
        go_quiet ((go_at_call 88; exact Calls.quiet_of_same (Tryz.strings_IndexByte _ _ _)))
        have hrq := HR.out.keep ((But.refl [] w).drewN nq) (by simp)
        go_wp2_with (go_at_call 32; refine (sees_any R a s 48 _ hrq).mono ?_; rintro e w1 ⟨rfl, hb1⟩; rw [hdy])
        have hr1 := hrq.keep hb1 (by simp)
        have hbw : But [R] w w1 := ((But.refl _ _).drewN nq).trans (hb1.weak (by simp))
        clear hcc hget hidx t1 hp hdy c0 c1 cz
        go_loopw [] (fun wr => ∃ k : Nat, Rdr wr R s k ∧ But [R] w wr ∧ k ≤ s.size ∧ Hid (rn p s.data.toList a = rn p s.data.toList k)) (fun wr => s.size - atOf R wr)
        case atStart => exact ⟨a, hr1, hbw, ha, Lib.hid rfl⟩
        case round =>
          obtain ⟨k, hr, hb, hk, hK⟩ := hrel
          obtain ⟨d0, d1, dz⟩ := hr.cells
          have hm := hr.at
          have HRk := Lib.hid hr
          by_cases hlk : k < s.size
          · obtain ⟨d, hd, hgd⟩ : ∃ d : UInt8, s.data.toList[k]? = some d ∧ s[k]'hlk = d := ⟨_, get_eq s k hlk, rfl⟩
            have t1 : decide ((k : Int) < (s.size : Int)) = true := by simp; omega
            have hidx : decide (0 ≤ Lib.indexByte of d) = p d := by
              have := HOF.out d
              by_cases e : Lib.indexByte of d < 0
              · simp [e] at this; simp [this]; omega
              · simp [e] at this; rw [this]; simp; omega
            have hcc : ((d.toNat : Int)).toNat.toUInt8 = d := by simp
            cases hp : p d
            · rw [hp] at hidx
              have hst : rn p s.data.toList k = k := rn_stop (fun c hc => by rw [hd] at hc; cases hc; exact hp)
              have HST := Lib.hid (hK.out.trans hst)
              clear hst hd hr hp
              go_wp2_with fail
              go_quiet ((go_at_call 88; exact Calls.quiet_of_same (Tryz.strings_IndexByte _ _ _)))
              go_wp2_with fail
              go_end0
              exact ⟨hb.drewN nq, .inl ⟨k, by rw [HDG.out, HST.out], rfl, HRk.out.keep ((But.refl [] wr).drewN nq) (by simp)⟩⟩
            · rw [hp] at hidx
              have hst : rn p s.data.toList k = rn p s.data.toList (k + 1) := rn_step hd hp
              have HST := Lib.hid (hK.out.trans hst)
              have e1 : IntKind.i64.wrap ((k : Int) + 1) = (k : Int) + 1 := by rw [IntKind.wrap_i64]; omega
              clear hst hd hr hp
              go_wp2_with fail
              go_quiet ((go_at_call 88; exact Calls.quiet_of_same (Tryz.strings_IndexByte _ _ _)))
              have hrq := HRk.out.keep ((But.refl [] wr).drewN nq) (by simp)
              obtain ⟨z0, z1, z2⟩ := hrq.cells
              go_wp2_with fail
              refine ⟨⟨k + 1, hrq.step (k + 1), (hb.drewN nq).setCell _ _ (.inl (by simp)), by omega, HST⟩, ?_⟩
              have := (hrq.step (k + 1)).at
              rw [hm]
              show s.size - atOf R ((wr.drewN nq).setCell ⟨R, 1, none⟩ (.int .i64 ((k + 1 : Nat) : Int))) < _
              rw [this]; omega
          · have t1 : decide ((k : Int) < (s.size : Int)) = false := by simp; omega
            have hst : rn p s.data.toList k = k := rn_stop (fun c hc => by rw [List.getElem?_eq_none (by simpa using hlk)] at hc; cases hc)
            have HST := Lib.hid (hK.out.trans hst)
            clear hst hr
            go_wp2_with fail
            go_quiet (fail)
            go_wp2_with fail
            go_end0
            exact ⟨hb.drewN nq, .inl ⟨k, by rw [HDG.out, HST.out], rfl, HRk.out.keep ((But.refl [] wr).drewN nq) (by simp)⟩⟩
  · have hdg : dg p s.data.toList a = (false, a) := by unfold dg; rw [List.getElem?_eq_none (by simpa using hlt)]
    have t1 : decide ((s.size : Int) ≤ (a : Int)) = true := by simp; omega
    have HDG := Lib.hid hdg
    have HR := Lib.hid h
    clear hdg h
    go_enter Tryz.func70, Tryz.ntmps70
    go_wp2_with fail
    go_quiet (fail)
    go_wp2_with (go_at_call 58; refine (fail_any R a s _ (HR.out.keep ((But.refl [] w).drewN _) (by simp))).mono ?_; rintro e w2 ⟨he, rfl⟩; subst he; simp only [Fa])
    exact ⟨rfl, (But.refl _ _).drewN _, .inr ⟨a, HDG.out, rfl⟩⟩
end Go.Proofs.YtnghppgpdeghfaaGreatDoor
