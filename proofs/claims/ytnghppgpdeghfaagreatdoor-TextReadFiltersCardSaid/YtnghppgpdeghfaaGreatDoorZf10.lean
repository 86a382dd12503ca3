/- The reference's run of digits. -/
import Derived.Test.YtnghppgpdeghfaaGreatDoorZf9
import Derived.Test.YtnghppgpdeghfaaGreatDoorZf8
namespace Go.Proofs.YtnghppgpdeghfaaGreatDoor
open Go.RowKit Go.Proofs.YtnghppgpdeghfaaGreatDoor.Fl Go.Proofs.YtnghppgpdeghfaaGreatDoor.Pt Go.Proofs.YtnghppgpdeghfaaGreatDoor.Tx

theorem Rr.at {w : World} {Q a e p : Nat} {s : ByteArray} (h : Rr w Q s a e p) : atOf Q w = a := by unfold atOf; rw [h.cells.2.1]; simp [intOf]
theorem rdigit_q (c : UInt8) (hex v : Bool) (hv : (if hex then isH c else isD c) = v) (w : World) : Calls Tryz.prog 98 #[.int .u8 (c.toNat : Int), .bool hex] w fun e w' => e = .returned (.bool v) ∧ w' = w := rdigit c hex v hv w

set_option linter.unusedSimpArgs false in
set_option maxRecDepth 100000 in
set_option maxHeartbeats 4000000 in
theorem rrun_off (Q a p f : Nat) (hf : ((f : Int) != 0) = true) (s : ByteArray) (hex nz : Bool) (w : World) (h : Rr w Q s a f p) : Calls Tryz.prog 79 #[.pointer (some ⟨Q, 0, none⟩), .bool hex, .bool nz] w fun e w' => e = .returned (.string (str [])) ∧ But [] w w' := by
  obtain ⟨c0, c1, c2, c3, cf⟩ := h.cells
  clear cf h
  go_enter Tryz.func79, Tryz.ntmps79
  go_wp2_with fail
  go_ret
  exact ⟨rfl, But.refl _ _⟩
set_option linter.unusedSimpArgs false in
set_option maxRecDepth 100000 in
set_option maxHeartbeats 4000000 in
theorem rrun_end (Q a : Nat) (s : ByteArray) (_hs : s.size ≤ 65536) (ha : a ≤ s.size) (hex nz : Bool) (w : World) (h : Rr w Q s a 0 0) (hlt : ¬ a < s.size) : Calls Tryz.prog 79 #[.pointer (some ⟨Q, 0, none⟩), .bool hex, .bool nz] w fun e w' => e = .returned (.string (str [])) ∧ Rr w' Q s a 12 a ∧ But [Q] w w' := by
  obtain ⟨c0, c1, c2, c3, cf⟩ := h.cells
  have t1 : decide ((a : Int) < (s.size : Int)) = false := decide_eq_false (by omega)
  have HR := Lib.hid h
  clear cf h
  go_enter Tryz.func79, Tryz.ntmps79
  go_wp2_with fail
  go_loopw [] (fun wr => Rr wr Q s a 0 0 ∧ But [Q] w wr) (fun wr => 0)
  case atStart => exact ⟨HR.out, But.refl _ _⟩
  case round =>
    obtain ⟨hr, hb⟩ := hrel
    obtain ⟨d0, d1, d2, d3, df⟩ := hr.cells
    have HRk := Lib.hid hr
    clear df hr
    go_wp2_with fail
    go_quiet (fail)
    have hrq := HRk.out.keep ((But.refl [] wr).drewN nq) (by simp)
    have hbn := hb.drewN nq
    obtain ⟨z0, z1, z2, z3, zf⟩ := hrq.cells
    have HQ := Lib.hid hrq
    clear zf hrq
    go_wp2_with (go_at_call 43; refine (rfail_on Q a 0 12 a s _ HQ.out).mono ?_; rintro e w2 ⟨rfl, hr2, hb2⟩; obtain ⟨y0, y1, y2, y3, yf⟩ := hr2.cells; clear yf)
    go_quiet (fail)
    go_wp2_with fail
    go_ret
    exact ⟨rfl, hr2.keep ((But.refl [] w2).drewN nq) (by simp), hbn.trans (hb2.drewN nq)⟩
set_option linter.unusedSimpArgs false in
set_option maxRecDepth 100000 in
set_option maxHeartbeats 4000000 in
theorem rrun_not (Q a : Nat) (s : ByteArray) (_hs : s.size ≤ 65536) (ha : a ≤ s.size) (hex nz : Bool) (w : World) (h : Rr w Q s a 0 0) (c : UInt8) (hc : s.data.toList[a]? = some c) (hp : (if hex then isH c else isD c) = false) : Calls Tryz.prog 79 #[.pointer (some ⟨Q, 0, none⟩), .bool hex, .bool nz] w fun e w' => e = .returned (.string (str [])) ∧ Rr w' Q s a 12 a ∧ But [Q] w w' := by
  obtain ⟨c0, c1, c2, c3, cf⟩ := h.cells
  have hlt : a < s.size := by have := (List.getElem?_eq_some_iff.1 hc).1; simpa using this
  have hget : s[a]'hlt = c := by have := get_eq s a hlt; rw [hc] at this; exact (Option.some.inj this).symm
  have t1 : decide ((a : Int) < (s.size : Int)) = true := decide_eq_true (by omega)
  have HP := Lib.hid hp
  have HR := Lib.hid h
  clear cf h hp hc
  go_enter Tryz.func79, Tryz.ntmps79
  go_wp2_with fail
  go_loopw [] (fun wr => Rr wr Q s a 0 0 ∧ But [Q] w wr) (fun wr => 0)
  case atStart => exact ⟨HR.out, But.refl _ _⟩
  case round =>
    obtain ⟨hr, hb⟩ := hrel
    obtain ⟨d0, d1, d2, d3, df⟩ := hr.cells
    have HRk := Lib.hid hr
    clear df hr
    go_wp2_with fail
    go_quiet ((go_at_call 98; exact Calls.quiet_of_same (rdigit_q c hex false HP.out _)))
    have hrq := HRk.out.keep ((But.refl [] wr).drewN nq) (by simp)
    have hbn := hb.drewN nq
    obtain ⟨z0, z1, z2, z3, zf⟩ := hrq.cells
    have HQ := Lib.hid hrq
    clear zf hrq
    go_wp2_with (go_at_call 43; refine (rfail_on Q a 0 12 a s _ HQ.out).mono ?_; rintro e w2 ⟨rfl, hr2, hb2⟩; obtain ⟨y0, y1, y2, y3, yf⟩ := hr2.cells; clear yf)
    go_quiet (fail)
    go_wp2_with fail
    go_ret
    exact ⟨rfl, hr2.keep ((But.refl [] w2).drewN nq) (by simp), hbn.trans (hb2.drewN nq)⟩

set_option linter.unusedSimpArgs false in
set_option maxRecDepth 100000 in
set_option maxHeartbeats 4000000 in
theorem rrun_nought (Q a : Nat) (s : ByteArray) (_hs : s.size ≤ 65536) (ha : a ≤ s.size) (hex nz : Bool) (w : World) (h : Rr w Q s a 0 0) (hnz : nz = true) (c : UInt8) (h48 : c = 48) (hc : s.data.toList[a]? = some c) (hp : (if hex then isH c else isD c) = true) : Calls Tryz.prog 79 #[.pointer (some ⟨Q, 0, none⟩), .bool hex, .bool nz] w fun e w' => e = .returned (.string (str [])) ∧ Rr w' Q s a 12 a ∧ But [Q] w w' := by
  obtain ⟨c0, c1, c2, c3, cf⟩ := h.cells
  have hlt : a < s.size := by have := (List.getElem?_eq_some_iff.1 hc).1; simpa using this
  have hget : s[a]'hlt = c := by have := get_eq s a hlt; rw [hc] at this; exact (Option.some.inj this).symm
  have t1 : decide ((a : Int) < (s.size : Int)) = true := decide_eq_true (by omega)
  have t2 : ((c.toNat : Int) == 48) = true := by rw [h48]; rfl
  have HP := Lib.hid hp
  have HR := Lib.hid h
  rw [hnz]
  clear cf h hp hc h48 hnz nz
  go_enter Tryz.func79, Tryz.ntmps79
  go_wp2_with fail
  go_loopw [] (fun wr => Rr wr Q s a 0 0 ∧ But [Q] w wr) (fun wr => 0)
  case atStart => exact ⟨HR.out, But.refl _ _⟩
  case round =>
    obtain ⟨hr, hb⟩ := hrel
    obtain ⟨d0, d1, d2, d3, df⟩ := hr.cells
    have HRk := Lib.hid hr
    clear df hr
    go_wp2_with fail
    go_quiet ((go_at_call 98; exact Calls.quiet_of_same (rdigit_q c hex true HP.out _)))
    have hrq := HRk.out.keep ((But.refl [] wr).drewN nq) (by simp)
    have hbn := hb.drewN nq
    obtain ⟨z0, z1, z2, z3, zf⟩ := hrq.cells
    clear zf hrq hbn
    rename Nat => n1
    go_wp2_with fail
    go_quiet (fail)
    have hrq := HRk.out.keep ((But.refl [] wr).drewN (n1 + nq)) (by simp)
    have hbn2 := hb.drewN (n1 + nq)
    obtain ⟨x0, x1, x2, x3, xf⟩ := hrq.cells
    have HQ2 := Lib.hid hrq
    clear xf hrq
    go_wp2_with (go_at_call 43; refine (rfail_on Q a 0 12 a s _ HQ2.out).mono ?_; rintro e w2 ⟨rfl, hr2, hb2⟩; obtain ⟨y0, y1, y2, y3, yf⟩ := hr2.cells; clear yf)
    go_quiet (fail)
    go_wp2_with fail
    go_ret
    exact ⟨rfl, hr2.keep ((But.refl [] w2).drewN nq) (by simp), hbn2.trans (hb2.drewN nq)⟩
set_option linter.unusedSimpArgs false in
set_option maxRecDepth 100000 in
set_option maxHeartbeats 4000000 in
theorem rrun_lone (Q a : Nat) (s : ByteArray) (hs : s.size ≤ 65536) (_ha : a ≤ s.size) (hex nz : Bool) (w : World) (h : Rr w Q s a 0 0) (hnz : nz = false) (c : UInt8) (h48 : c = 48) (hc : s.data.toList[a]? = some c) (hp : (if hex then isH c else isD c) = true) : Calls Tryz.prog 79 #[.pointer (some ⟨Q, 0, none⟩), .bool hex, .bool nz] w fun e w' => e = .returned (.string (s.extract a (a + 1))) ∧ Rr w' Q s (a + 1) 0 0 ∧ But [Q] w w' := by
  obtain ⟨c0, c1, c2, c3, cf⟩ := h.cells
  have hlt : a < s.size := by have := (List.getElem?_eq_some_iff.1 hc).1; simpa using this
  have hget : s[a]'hlt = c := by have := get_eq s a hlt; rw [hc] at this; exact (Option.some.inj this).symm
  have t1 : decide ((a : Int) < (s.size : Int)) = true := decide_eq_true (by omega)
  have t2 : ((c.toNat : Int) == 48) = true := by rw [h48]; rfl
  have t3 : ((((a + 1 : Nat)) : Int) == (a : Int)) = false := by simp; omega
  have e1 : IntKind.i64.wrap ((a : Int) + 1) = ((a + 1 : Nat) : Int) := by rw [IntKind.wrap_i64]; omega
  have HP := Lib.hid hp
  have HR := Lib.hid h
  rw [hnz]
  clear cf h hp hc h48 hnz nz
  go_enter Tryz.func79, Tryz.ntmps79
  go_wp2_with fail
  go_loopw [] (fun wr => Rr wr Q s a 0 0 ∧ But [Q] w wr) (fun wr => 0)
  case atStart => exact ⟨HR.out, But.refl _ _⟩
  case round =>
    obtain ⟨hr, hb⟩ := hrel
    obtain ⟨d0, d1, d2, d3, df⟩ := hr.cells
    have HRk := Lib.hid hr
    clear df hr
    go_wp2_with fail
    go_quiet ((go_at_call 98; exact Calls.quiet_of_same (rdigit_q c hex true HP.out _)))
    have hrq := HRk.out.keep ((But.refl [] wr).drewN nq) (by simp)
    have hbn := hb.drewN nq
    obtain ⟨z0, z1, z2, z3, zf⟩ := hrq.cells
    clear zf hrq hbn
    rename Nat => n1
    go_wp2_with fail
    go_quiet (fail)
    have hrq := HRk.out.keep ((But.refl [] wr).drewN (n1 + nq)) (by simp)
    have hbn2 := (hb.drewN (n1 + nq)).setCell ⟨Q, 1, none⟩ (.int .i64 ((a + 1 : Nat) : Int)) (.inl (by simp))
    have hst := hrq.step (a + 1)
    obtain ⟨x0, x1, x2, x3, xf⟩ := hrq.cells
    have xf1 := xf 1
    obtain ⟨v0, v1, v2, v3, vf⟩ := hst.cells
    have HQ2 := Lib.hid hst
    clear xf vf hrq hst
    go_wp2_with fail
    go_quiet (fail)
    go_wp2_with fail
    go_ret
    exact ⟨rfl, HQ2.out.keep ((But.refl [] _).drewN nq) (by simp), hbn2.drewN nq⟩

set_option linter.unusedSimpArgs false in
set_option maxRecDepth 100000 in
set_option maxHeartbeats 4000000 in
theorem rrun_many (Q a : Nat) (s : ByteArray) (hs : s.size ≤ 65536) (ha : a ≤ s.size) (hex nz : Bool) (w : World) (h : Rr w Q s a 0 0) (c : UInt8) (h48 : ¬ c = 48) (hc : s.data.toList[a]? = some c) (hp : (if hex then isH c else isD c) = true) (b : Nat) (hrb : rn (if hex then isH else isD) s.data.toList a = b) : Calls Tryz.prog 79 #[.pointer (some ⟨Q, 0, none⟩), .bool hex, .bool nz] w fun e w' => e = .returned (.string (s.extract a b)) ∧ Rr w' Q s b 0 0 ∧ But [Q] w w' := by
  have HB := Lib.hid hrb
  clear hrb
  obtain ⟨c0, c1, c2, c3, cf⟩ := h.cells
  have hlt : a < s.size := by have := (List.getElem?_eq_some_iff.1 hc).1; simpa using this
  have hget : s[a]'hlt = c := by have := get_eq s a hlt; rw [hc] at this; exact (Option.some.inj this).symm
  have t2 : ((c.toNat : Int) == 48) = false := by
    have : c.toNat ≠ 48 := fun e => h48 (UInt8.toNat_inj.1 e)
    simp; omega
  have HC := Lib.hid hc
  have HP := Lib.hid hp
  have HR := Lib.hid h
  clear cf h hp hc h48
  have hpe : ∀ d : UInt8, (if hex then isH else isD) d = (if hex then isH d else isD d) := fun d => by cases hex <;> rfl
  have HPE := Lib.hid hpe
  clear hpe
  go_enter Tryz.func79, Tryz.ntmps79
  go_wp2_with fail
  go_loopw [] (fun wr => ∃ k : Nat, Rr wr Q s k 0 0 ∧ But [Q] w wr ∧ a ≤ k ∧ k ≤ s.size ∧ Hid (rn (if hex then isH else isD) s.data.toList a = rn (if hex then isH else isD) s.data.toList k)) (fun wr => s.size - atOf Q wr)
  case atStart => exact ⟨a, HR.out, But.refl _ _, by omega, ha, Lib.hid rfl⟩
  case round =>
    obtain ⟨k, hr, hb, hak, hk, hK⟩ := hrel
    obtain ⟨d0, d1, d2, d3, df⟩ := hr.cells
    have hm := hr.at
    have HRk := Lib.hid hr
    clear df hr
    by_cases hlk : k < s.size
    · obtain ⟨d, hd, hgd⟩ : ∃ d : UInt8, s.data.toList[k]? = some d ∧ s[k]'hlk = d := ⟨_, get_eq s k hlk, rfl⟩
      have t1 : decide ((k : Int) < (s.size : Int)) = true := decide_eq_true (by omega)
      cases hp2 : (if hex then isH d else isD d)
      · have hne : ¬ k = a := by
          intro e; rw [e, HC.out] at hd; injection hd with hd; rw [← hd, HP.out] at hp2; cases hp2
        have t3 : ((k : Int) == (a : Int)) = false := by simp; omega
        have HP2 := Lib.hid hp2
        have hst : rn (if hex then isH else isD) s.data.toList k = k := rn_stop (fun c hc => by rw [hd] at hc; cases hc; rw [HPE.out]; exact hp2)
        have HST := Lib.hid (hK.out.trans hst)
        clear hst hd hp2 hne
        go_wp2_with fail
        go_quiet ((go_at_call 98; exact Calls.quiet_of_same (rdigit_q d hex false HP2.out _)))
        have hrq := HRk.out.keep ((But.refl [] wr).drewN nq) (by simp)
        have hbn := hb.drewN nq
        obtain ⟨z0, z1, z2, z3, zf⟩ := hrq.cells
        clear zf hrq
        rename Nat => n1
        go_wp2_with fail
        go_quiet (fail)
        go_wp2_with fail
        go_ret
        rw [← HB.out, HST.out]
        exact ⟨rfl, HRk.out.keep (((But.refl [] wr).drewN n1).drewN nq) (by simp), (hb.drewN n1).drewN nq⟩
      · have hst : rn (if hex then isH else isD) s.data.toList k = rn (if hex then isH else isD) s.data.toList (k + 1) := rn_step hd (by rw [HPE.out]; exact hp2)
        have HST := Lib.hid (hK.out.trans hst)
        have HP2 := Lib.hid hp2
        have e1 : IntKind.i64.wrap ((k : Int) + 1) = ((k + 1 : Nat) : Int) := by rw [IntKind.wrap_i64]; omega
        by_cases hka : k = a
        · have t3 : ((k : Int) == (a : Int)) = true := by simp; omega
          have t4 : ((d.toNat : Int) == 48) = false := by
            rw [hka, HC.out] at hd; injection hd with hd; rw [← hd]; exact t2
          clear hst hd hp2 hka
          cases nz
          · have t5 : True := trivial
            go_wp2_with fail
            go_quiet ((go_at_call 98; exact Calls.quiet_of_same (rdigit_q d hex true HP2.out _)))
            rename Nat => n1
            have hrq := HRk.out.keep ((But.refl [] wr).drewN n1) (by simp)
            obtain ⟨z0, z1, z2, z3, zf⟩ := hrq.cells
            clear zf hrq
            go_wp2_with fail
            go_quiet (fail)
            have hrq := HRk.out.keep ((But.refl [] wr).drewN (n1 + nq)) (by simp)
            have hbn2 := (hb.drewN (n1 + nq)).setCell ⟨Q, 1, none⟩ (.int .i64 ((k + 1 : Nat) : Int)) (.inl (by simp))
            have hst := hrq.step (k + 1)
            obtain ⟨x0, x1, x2, x3, xf⟩ := hrq.cells
            have xf1 := xf 1
            obtain ⟨v0, v1, v2, v3, vf⟩ := hst.cells
            have HQ2 := Lib.hid hst
            clear xf vf hrq hst
            go_wp2_with fail
            refine ⟨⟨k + 1, HQ2.out, hbn2, by omega, by omega, HST⟩, ?_⟩
            have := HQ2.out.at
            rw [hm]
            show s.size - atOf Q ((wr.drewN (n1 + nq)).setCell ⟨Q, 1, none⟩ (.int .i64 ((k + 1 : Nat) : Int))) < _
            rw [this]; omega
          · have t5 : True := trivial
            go_wp2_with fail
            go_quiet ((go_at_call 98; exact Calls.quiet_of_same (rdigit_q d hex true HP2.out _)))
            rename Nat => n1
            have hrq := HRk.out.keep ((But.refl [] wr).drewN n1) (by simp)
            obtain ⟨z0, z1, z2, z3, zf⟩ := hrq.cells
            clear zf hrq
            go_wp2_with fail
            go_quiet (fail)
            have hrq := HRk.out.keep ((But.refl [] wr).drewN (n1 + nq)) (by simp)
            have hbn2 := (hb.drewN (n1 + nq)).setCell ⟨Q, 1, none⟩ (.int .i64 ((k + 1 : Nat) : Int)) (.inl (by simp))
            have hst := hrq.step (k + 1)
            obtain ⟨x0, x1, x2, x3, xf⟩ := hrq.cells
            have xf1 := xf 1
            obtain ⟨v0, v1, v2, v3, vf⟩ := hst.cells
            have HQ2 := Lib.hid hst
            clear xf vf hrq hst
            go_wp2_with fail
            refine ⟨⟨k + 1, HQ2.out, hbn2, by omega, by omega, HST⟩, ?_⟩
            have := HQ2.out.at
            rw [hm]
            show s.size - atOf Q ((wr.drewN (n1 + nq)).setCell ⟨Q, 1, none⟩ (.int .i64 ((k + 1 : Nat) : Int))) < _
            rw [this]; omega
        · have t3 : ((k : Int) == (a : Int)) = false := by simp; omega
          clear hst hd hp2 hka
          go_wp2_with fail
          go_quiet ((go_at_call 98; exact Calls.quiet_of_same (rdigit_q d hex true HP2.out _)))
          rename Nat => n1
          have hrq := HRk.out.keep ((But.refl [] wr).drewN n1) (by simp)
          obtain ⟨z0, z1, z2, z3, zf⟩ := hrq.cells
          clear zf hrq
          go_wp2_with fail
          go_quiet (fail)
          have hrq := HRk.out.keep ((But.refl [] wr).drewN (n1 + nq)) (by simp)
          have hbn2 := (hb.drewN (n1 + nq)).setCell ⟨Q, 1, none⟩ (.int .i64 ((k + 1 : Nat) : Int)) (.inl (by simp))
          have hst := hrq.step (k + 1)
          obtain ⟨x0, x1, x2, x3, xf⟩ := hrq.cells
          have xf1 := xf 1
          obtain ⟨v0, v1, v2, v3, vf⟩ := hst.cells
          have HQ2 := Lib.hid hst
          clear xf vf hrq hst
          go_wp2_with fail
          refine ⟨⟨k + 1, HQ2.out, hbn2, by omega, by omega, HST⟩, ?_⟩
          have := HQ2.out.at
          rw [hm]
          show s.size - atOf Q ((wr.drewN (n1 + nq)).setCell ⟨Q, 1, none⟩ (.int .i64 ((k + 1 : Nat) : Int))) < _
          rw [this]; omega
    · have t1 : decide ((k : Int) < (s.size : Int)) = false := decide_eq_false (by omega)
      have hst : rn (if hex then isH else isD) s.data.toList k = k := rn_stop (fun c hc => by rw [List.getElem?_eq_none (by simpa using hlk)] at hc; cases hc)
      have HST := Lib.hid (hK.out.trans hst)
      have t3 : ((k : Int) == (a : Int)) = false := by simp; omega
      clear hst
      go_wp2_with fail
      go_quiet (fail)
      have hrq := HRk.out.keep ((But.refl [] wr).drewN nq) (by simp)
      have hbn := hb.drewN nq
      obtain ⟨z0, z1, z2, z3, zf⟩ := hrq.cells
      clear zf hrq
      rename Nat => n1
      go_wp2_with fail
      go_quiet (fail)
      go_wp2_with fail
      go_ret
      rw [← HB.out, HST.out]
      exact ⟨rfl, HRk.out.keep (((But.refl [] wr).drewN n1).drewN nq) (by simp), (hb.drewN n1).drewN nq⟩

end Go.Proofs.YtnghppgpdeghfaaGreatDoor
