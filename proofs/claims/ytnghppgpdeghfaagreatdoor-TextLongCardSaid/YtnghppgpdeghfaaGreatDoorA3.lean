/- strconv.FormatUint at base 16. -/
import Derived.Test.YtnghppgpdeghfaaGreatDoorA2
import Derived.LoopTactic
import Derived.Lib.SlBytesConst
namespace Go.Proofs.YtnghppgpdeghfaaGreatDoor
open Go.RowKit Go.Proofs.YtnghppgpdeghfaaGreatDoor.Fl Go.Proofs.YtnghppgpdeghfaaGreatDoor.Pt Go.Proofs.YtnghppgpdeghfaaGreatDoor.Tx

theorem tz16 : tz 16 = 4 := by
  rw [tz, dif_neg (by decide), tz, dif_neg (by decide), tz, dif_neg (by decide), tz, dif_neg (by decide), tz, dif_pos (by decide)]
theorem and15 (u : Nat) (h : u < 18446744073709551616) : bits .and .u64 (u : Int) 15 = ((u % 16 : Nat) : Int) := by
  have := and_nat u 15 h (by decide)
  rw [show (15 : Nat) = 2 ^ 4 - 1 by decide, Nat.and_two_pow_sub_one_eq_mod u 4] at this
  exact this
/-- Digits stand in an array, from its place 65 - k on. -/
def Dg (wr : World) (b : Nat) (D : List UInt8) : Prop := ∃ cs : Array Value, wr.heap[b]? = some (.cells cs 148 (0, 0)) ∧ cs.size = 65 ∧ D.length ≤ 65 ∧ ∀ (j : Nat) (c : UInt8), D[j]? = some c → cs[65 - D.length + j]? = some (.int .u8 (c.toNat : Int))
theorem Dg.nil {wr : World} {b : Nat} {cs : Array Value} (h : wr.heap[b]? = some (.cells cs 148 (0, 0))) (hs : cs.size = 65) : Dg wr b [] := ⟨cs, h, hs, by simp, fun j c hj => by simp at hj⟩
theorem Dg.cons {wr : World} {b : Nat} {D : List UInt8} (h : Dg wr b D) (hl : D.length < 65) (c : UInt8) : Dg (wr.setCell ⟨b, 65 - D.length - 1, none⟩ (.int .u8 (c.toNat : Int))) b (c :: D) := by
  obtain ⟨cs, h1, h2, h3, h4⟩ := h
  refine ⟨_, blk_set _ _ _ _ _ _ h1, by simpa using h2, by simp; omega, fun j d hj => ?_⟩
  cases j with
  | zero =>
    simp at hj; subst hj
    rw [List.length_cons, Nat.add_zero, show 65 - (D.length + 1) = 65 - D.length - 1 by omega, Array.getElem?_setIfInBounds_self_of_lt (by omega)]
  | succ j =>
    rw [List.getElem?_cons_succ] at hj
    have := h4 j d hj
    rw [List.length_cons, show 65 - (D.length + 1) + (j + 1) = 65 - D.length + j by omega, Array.getElem?_setIfInBounds_ne (by omega)]
    exact this
theorem Dg.cell {wr : World} {b : Nat} {D : List UInt8} (h : Dg wr b D) (j : Nat) (hj : j < 65) : ∃ v, wr.cell? ⟨b, j, none⟩ = some v ∧ wr.frozen? ⟨b, j, none⟩ = false := by
  obtain ⟨cs, h1, h2, _⟩ := h
  exact ⟨cs[j], by rw [cell_of_row wr b j _ _ _ h1]; exact Array.getElem?_eq_getElem (by omega), blk_free h1⟩

theorem Dg.string {wr : World} {b : Nat} {D : List UInt8} (h : Dg wr b D) : (convert 32 9 (.slice (some ⟨b, 65 - D.length, none⟩) D.length D.length)).run Tryz.prog wr = .ok (.string ⟨D.toArray⟩) wr := by
  obtain ⟨cs, h1, h2, h3, h4⟩ := h
  refine run_convert_bytes_back (P := Tryz.prog) wr 32 9 5 ⟨b, 65 - D.length, none⟩ D.length D Tryz.underlying32 Tryz.underlying5 Tryz.underlying9 (fun j hj => ?_)
  rw [Addr.add_lit, cell_of_row wr b _ _ _ _ h1]
  exact h4 j _ (List.getElem?_eq_getElem hj)
theorem run_tail (W : World) (b i k : Nat) (hi : i + k = 65) (hk : 0 < k) : (Instr.sliceAt 148 (.pointer (some ⟨b, 0, none⟩)) (some (.int .i64 (i : Int))) none none).run Tryz.prog W = .ok (.slice (some ⟨b, i, none⟩) k k) W := by
  have hal : Tryz.prog.arrayLen 148 = 65 := by kernel_rfl
  rw [run_sliceAt_array_l W 148 ⟨b, 0, none⟩ (by kernel_rfl) .i64 (i : Int) (by omega) (by rw [hal]; omega)]
  have hz : (sizeOf (Tryz.prog.elem 148)).run Tryz.prog W = .ok 1 W := by rw [show Tryz.prog.elem 148 = 5 by kernel_rfl]; go_simp
  rw [hz, hal]
  simp only [Result.andThen_ok, slicedAt, Int.toNat_natCast]
  rw [if_neg (by omega), Nat.mul_one, Addr.add_lit, Nat.zero_add, show 65 - i = k by omega]
def dig36 : ByteArray := ⟨#[48, 49, 50, 51, 52, 53, 54, 55, 56, 57, 97, 98, 99, 100, 101, 102, 103, 104, 105, 106, 107, 108, 109, 110, 111, 112, 113, 114, 115, 116, 117, 118, 119, 120, 121, 122]⟩
theorem dig_hc : ∀ m, m < 16 → ∀ hp : m < dig36.size, dig36[m]'hp = hc m := by decide +kernel

set_option linter.unusedSimpArgs false in
set_option maxRecDepth 100000 in
set_option maxHeartbeats 1000000 in
theorem fbits_any (U : Nat) (h : U < 18446744073709551616) (w : World) (hg : Gl w) : Calls Tryz.prog 86 #[.slice none 0 0, .int .u64 U, .int .i64 16, .bool false, .bool false] w fun e w' => e = .returned (.tuple #[.slice none 0 0, .string ⟨(hexD U).toArray⟩]) ∧ But [] w w' := by
  have ht := tz16
  have c2 : (bits .and .i64 16 15 == 0) = true := by decide
  obtain ⟨w1, hw1, hb1, hB⟩ : ∃ w1, w.alloc (.cells Tryz.zeroCells148 148) = w1 ∧ But [] w w1 ∧ w1.heap[w.heap.size]? = some (.cells Tryz.zeroCells148 148 (0, 0)) := ⟨_, rfl, (But.refl _ _).alloc _, heap_alloc_new w _⟩
  have hg1 := hg.keep hb1 (by simp)
  have HG1 := Lib.hid hg1
  have hD0 := Dg.nil hB (by kernel_rfl)
  clear hB hg1
  go_enter Tryz.func86, Tryz.ntmps86
  go_wp2_with (first | (go_at_call 55; refine (tz_any 16 (by omega) (by omega) _ HG1.out).mono ?_; rintro e w2 ⟨rfl, hw2⟩; rw [hw2]; clear hw2 w2) | (go_at_call 106; go_in) | (go_at_call 107; go_in))
  generalize hb : w.heap.size = b at *
  go_loopw [1, 13] (fun u i wr => ∃ (x : Nat) (D : List UInt8), u = .int .u64 (x : Int) ∧ i = .int .i64 ((65 - D.length : Nat) : Int) ∧ x < 18446744073709551616 ∧ Hid (x * 16 ^ D.length ≤ U) ∧ D.length ≤ 15 ∧ Hid (hexD U = hexD x ++ D) ∧ Dg wr b D ∧ But [b] w1 wr) (fun u _ _ => (intOf u).toNat)
  case atStart => exact ⟨U, [], rfl, rfl, h, Lib.hid (by simp), by simp, Lib.hid (by simp), hD0, But.refl _ _⟩
  case round =>
    obtain ⟨x, D, rfl, rfl, hx, hU, hl, hD, hdg, hbt⟩ := hrel
    by_cases h16 : 16 ≤ x
    · have t1 : decide ((16 : Int) ≤ (x : Int)) = true := by simp; omega
      have hl14 : D.length ≤ 14 := by
        refine Classical.byContradiction fun hc => ?_
        have e1 : 16 ^ 16 ≤ x * 16 ^ D.length := by
          have : 16 * 16 ^ 15 ≤ x * 16 ^ D.length := Nat.mul_le_mul h16 (Nat.pow_le_pow_right (by omega) (by omega))
          simpa using this
        have e2 := hU.out
        have e3 : (16 : Nat) ^ 16 = 18446744073709551616 := by decide
        omega
      obtain ⟨v0, hc0, hz0⟩ := hdg.cell (65 - D.length - 1) (by omega)
      have ha := and15 x hx
      have hdg' := hdg.cons (by omega) (hc (x % 16))
      have hbt' : But [b] w1 (wr.setCell ⟨b, 65 - D.length - 1, none⟩ (.int .u8 ((hc (x % 16)).toNat : Int))) := hbt.setCell _ _ (.inl (by simp))
      have hD' : hexD U = hexD (x / 16) ++ (hc (x % 16) :: D) := by rw [hD.out, hexD_big (by omega), List.append_assoc]; rfl
      have hU' : x / 16 * 16 ^ (D.length + 1) ≤ U := by
        refine Nat.le_trans ?_ hU.out
        rw [Nat.pow_succ, Nat.mul_comm (16 ^ D.length) 16, ← Nat.mul_assoc]
        exact Nat.mul_le_mul_right _ (Nat.div_mul_le_self x 16)
      have HD := Lib.hid hD'
      have HU := Lib.hid hU'
      clear hD' hU' hU hD
      have hm16 : x % 16 < 16 := by omega
      generalize hm : x % 16 = m at *
      have hdc : ∀ hp, (⟨#[48, 49, 50, 51, 52, 53, 54, 55, 56, 57, 97, 98, 99, 100, 101, 102, 103, 104, 105, 106, 107, 108, 109, 110, 111, 112, 113, 114, 115, 116, 117, 118, 119, 120, 121, 122]⟩ : ByteArray)[m]'hp = hc m := fun hp => dig_hc m hm16 hp
      go_wp2
      exact ⟨⟨x / 16, hc m :: D, by go_num, by simp only [List.length_cons]; go_num, by omega, HU, by simp only [List.length_cons]; omega, HD, hdg', hbt'⟩, by simp [intOf]; omega⟩
    · have t1 : decide ((16 : Int) ≤ (x : Int)) = false := by simp; omega
      obtain ⟨v0, hc0, hz0⟩ := hdg.cell (65 - D.length - 1) (by omega)
      have hdg' := hdg.cons (by omega) (hc x)
      have hbt' : But [b] w1 (wr.setCell ⟨b, 65 - D.length - 1, none⟩ (.int .u8 ((hc x).toNat : Int))) := hbt.setCell _ _ (.inl (by simp))
      have hD' : hexD U = hc x :: D := by rw [hD.out, hexD_small (by omega)]; rfl
      have HD := Lib.hid hD'
      clear hD' hD hU
      have hdc : ∀ hp, (⟨#[48, 49, 50, 51, 52, 53, 54, 55, 56, 57, 97, 98, 99, 100, 101, 102, 103, 104, 105, 106, 107, 108, 109, 110, 111, 112, 113, 114, 115, 116, 117, 118, 119, 120, 121, 122]⟩ : ByteArray)[x]'hp = hc x := fun hp => dig_hc x (by omega) hp
      have e0 : ((65 - D.length : Nat) : Int) - 1 = ((65 - D.length - 1 : Nat) : Int) := by omega
      have hsl : ∀ W, (Instr.sliceAt 148 (.pointer (some ⟨b, 0, none⟩)) (some (.int .i64 ((65 - D.length - 1 : Nat) : Int))) none none).run Tryz.prog W = .ok (.slice (some ⟨b, 65 - D.length - 1, none⟩) (D.length + 1) (D.length + 1)) W := fun W => run_tail W b _ _ (by omega) (by omega)
      have hcv := hdg'.string
      rw [List.length_cons, show 65 - (D.length + 1) = 65 - D.length - 1 by omega] at hcv
      go_wp2

      go_ret2
      exact ⟨by rw [HD.out]; rfl, hb1.then hbt' (fun i hi hm => by simp at hm; omega)⟩
theorem ifu_any (U : Nat) (h : U < 18446744073709551616) (w : World) (hg : Gl w) : Calls Tryz.prog 67 #[.int .u64 U, .int .i64 16] w fun e w' => e = .returned (.string ⟨(hexD U).toArray⟩) ∧ But [] w w' := by
  go_enter Tryz.func67, Tryz.ntmps67
  go_wp2_with (go_at_call 86; refine (fbits_any U h _ hg).mono ?_; rintro e w1 ⟨rfl, hb1⟩)
  go_ret
  exact ⟨rfl, hb1⟩
theorem fu_any (U : Nat) (h : U < 18446744073709551616) (w : World) (hg : Gl w) : Calls Tryz.prog 56 #[.int .u64 U, .int .i64 16] w fun e w' => e = .returned (.string ⟨(hexD U).toArray⟩) ∧ But [] w w' := by
  go_enter Tryz.func56, Tryz.ntmps56
  go_wp2_with (go_at_call 67; refine (ifu_any U h _ hg).mono ?_; rintro e w1 ⟨rfl, hb1⟩)
  go_ret
  exact ⟨rfl, hb1⟩
end Go.Proofs.YtnghppgpdeghfaaGreatDoor
