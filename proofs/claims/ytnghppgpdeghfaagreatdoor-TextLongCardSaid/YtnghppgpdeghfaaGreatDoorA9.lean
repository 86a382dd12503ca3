/- strconv.ParseUint at base 16. -/
import Derived.Test.YtnghppgpdeghfaaGreatDoorA4
import Derived.Lib.ConvBytes
import Derived.Lib.AtoiAllMem
import Derived.Lib.AtoiErrMem
import Derived.Lib.Walk
import Derived.Laws.Closers25
import Derived.Laws.Closers25b
import Derived.BigCall
import Derived.BigGuard
namespace Go.Proofs.YtnghppgpdeghfaaGreatDoor
open Go.RowKit Go.Proofs.YtnghppgpdeghfaaGreatDoor.Fl Go.Proofs.YtnghppgpdeghfaaGreatDoor.Pt Go.Proofs.YtnghppgpdeghfaaGreatDoor.Tx

theorem or32 : ∀ n : Nat, n < 103 → 97 ≤ n → bits .or .u8 (n : Int) 32 = (n : Int) := by decide +kernel
set_option linter.unusedSimpArgs false in
set_option maxHeartbeats 32000000 in
set_option maxRecDepth 100000 in
theorem ipu_any (t : ByteArray) (hne : t.size ≠ 0) (hmax : t.size ≤ 9223372036854775806) (hH : ∀ c ∈ t.data.toList, isH c = true) (w : World) :
    Calls Tryz.prog 93 #[.string t, .int .i64 16, .int .i64 64] w fun e w' => e = .returned (Lib.uintTuple 153 (pu16 0 t.data.toList)) ∧ w' = Lib.bytesWorld w 5 t := by
  have hemp : t.toList.isEmpty = false := by
    rw [← decide_eq_emptyBytes]
    exact decide_eq_false (fun h => hne (by rw [h]; rfl))
  have hcv := Lib.run_convert_string_bytes (P := Tryz.prog) w 9 32 5 t (u := .string) Tryz.underlying9 Tryz.underlying32 Tryz.underlying5
  have hB : ∀ j, j < t.size → (Lib.bytesWorld w 5 t).cell? ⟨w.heap.size, j, none⟩ = some (.int .u8 (t.data.toList.getD j 0).toNat) := fun j hj => Lib.bytesWorld_cell w 5 t j hj
  obtain ⟨W1, hW1⟩ : ∃ W1, W1 = Lib.bytesWorld w 5 t := ⟨_, rfl⟩
  rw [← hW1] at hcv hB ⊢
  clear hW1
  obtain ⟨bs, hL⟩ : ∃ bs, bs = t.data.toList := ⟨_, rfl⟩
  have hLn : bs.length = t.size := by rw [hL, Lib.size_eq]
  rw [← hL] at hB hH ⊢
  clear hL
  have HH := Lib.hid hH
  clear hH
  have hmv : IntKind.u64.wrap (IntKind.u64.wrap 18446744073709551616 - 1) = 18446744073709551615 := by
    rw [IntKind.wrap_u64, IntKind.wrap_u64]
    decide
  go_enter Tryz.func93, Tryz.ntmps93
  go_wp2
  go_loop [12, 13, 101] (fun vu vn vi => ∃ (k acc : Nat) (a : Int), vu = .bool false ∧ vn = .int .u64 a ∧ vi = .int .i64 k ∧ k ≤ t.size ∧ Hid (a = (acc : Int) ∧ acc < 18446744073709551616 ∧ pu16 0 bs = pu16 acc (bs.drop k)))
    (fun _ _ vi => t.size - (intOf vi).toNat)
  case atStart => exact ⟨0, 0, 0, rfl, rfl, rfl, by omega, Lib.hid ⟨rfl, by omega, rfl⟩⟩
  case round =>
    obtain ⟨k, acc, a, rfl, rfl, rfl, hk, hh⟩ := hrel
    obtain ⟨ha, hacc, hdec⟩ := hh.out
    clear hh
    have a0 : 0 ≤ a := by omega
    have a1 : a < 18446744073709551616 := by omega
    by_cases hkn : k < t.size
    · have hc := hB k hkn
      have hdrop : bs.drop k = bs[k]'(by omega) :: bs.drop (k + 1) := List.drop_eq_getElem_cons (by omega)
      have hget : bs.getD k 0 = bs[k]'(by omega) := by simp [List.getD, List.getElem?_eq_getElem (show k < bs.length by omega)]
      have hHc : isH (bs[k]'(by omega)) = true := HH.out _ (List.getElem_mem _)
      rw [hdrop] at hdec
      rw [hget] at hc
      generalize bs[k]'(by omega) = c at hc hdec hHc
      have hc256 : c.toNat < 256 := c.toNat_lt
      clear hB hdrop hget
      by_cases hdig : c.toNat ≤ 57
      · have hd0 : 48 ≤ c.toNat := by unfold isH at hHc; simp at hHc; omega
        have hd1 := hdig
        have hhv : hv c = c.toNat - 48 := by unfold hv; rw [if_neg (by omega)]
        have hc16 : isH c = true := hHc
        by_cases hcut : 1152921504606846976 ≤ acc
        · have hF : pu16 acc (c :: bs.drop (k + 1)) = .range := by rw [pu16, if_pos hc16, if_pos hcut]
          rw [hF] at hdec
          have icut : 1152921504606846976 ≤ a := by omega
          clear hcut hacc hF ha hhv
          go_wp2
          go_ret2
          first | exact ⟨rfl, rfl⟩ | exact ⟨by rw [hdec]; rfl, rfl⟩
        · have hF : pu16 acc (c :: bs.drop (k + 1)) = pu16 (acc * 16 + hv c) (bs.drop (k + 1)) := by rw [pu16, if_pos hc16, if_neg hcut]
          have hm16 : IntKind.u64.wrap (a * 16) = a * 16 := by rw [IntKind.wrap_u64]; omega
          have HN : Hid (a * 16 + ((c.toNat : Int) - 48) = ((acc * 16 + hv c : Nat) : Int) ∧ acc * 16 + hv c < 18446744073709551616 ∧ pu16 0 bs = pu16 (acc * 16 + hv c) (bs.drop (k + 1))) := Lib.hid ⟨by omega, by omega, hdec.trans hF⟩
          have icut : a < 1152921504606846976 := by omega
          have iov : a * 16 + ((c.toNat : Int) - 48) < 18446744073709551616 := by omega
          have hwr : IntKind.u64.wrap (a * 16 + ((c.toNat : Int) - 48)) = a * 16 + ((c.toNat : Int) - 48) := by rw [IntKind.wrap_u64]; omega
          clear hcut hacc hF hdec ha hhv
          go_wp2
          refine ⟨⟨k + 1, acc * 16 + hv c, a * 16 + ((c.toNat : Int) - 48), rfl, (by first | rfl | (congr 1; omega)), (by first | rfl | (congr 1; omega)), by omega, HN⟩, by simp [intOf]; omega⟩
      · have hl : 97 ≤ c.toNat ∧ c.toNat ≤ 102 := by unfold isH at hHc; simp at hHc; omega
        obtain ⟨hl0, hl1⟩ := hl
        have hhv : hv c = c.toNat - 87 := by unfold hv; rw [if_pos hl0]
        have hlow := or32 c.toNat (by omega) hl0
        have hc16 : isH c = true := hHc
        by_cases hcut : 1152921504606846976 ≤ acc
        · have hF : pu16 acc (c :: bs.drop (k + 1)) = .range := by rw [pu16, if_pos hc16, if_pos hcut]
          rw [hF] at hdec
          have icut : 1152921504606846976 ≤ a := by omega
          clear hcut hacc hF ha hhv
          go_wp2_with (go_at_call 116; refine (Tryz.internal_strconv_lower _ _).mono ?_; rintro e w' ⟨rfl, rfl⟩)
          go_ret2
          first | exact ⟨rfl, rfl⟩ | exact ⟨by rw [hdec]; rfl, rfl⟩
        · have hF : pu16 acc (c :: bs.drop (k + 1)) = pu16 (acc * 16 + hv c) (bs.drop (k + 1)) := by rw [pu16, if_pos hc16, if_neg hcut]
          have hm16 : IntKind.u64.wrap (a * 16) = a * 16 := by rw [IntKind.wrap_u64]; omega
          have HN : Hid (a * 16 + ((c.toNat : Int) - 97 + 10) = ((acc * 16 + hv c : Nat) : Int) ∧ acc * 16 + hv c < 18446744073709551616 ∧ pu16 0 bs = pu16 (acc * 16 + hv c) (bs.drop (k + 1))) := Lib.hid ⟨by omega, by omega, hdec.trans hF⟩
          have icut : a < 1152921504606846976 := by omega
          have iov : a * 16 + ((c.toNat : Int) - 97 + 10) < 18446744073709551616 := by omega
          have hwr : IntKind.u64.wrap (a * 16 + ((c.toNat : Int) - 97 + 10)) = a * 16 + ((c.toNat : Int) - 97 + 10) := by rw [IntKind.wrap_u64]; omega
          clear hcut hacc hF hdec ha hhv
          go_wp2_with (go_at_call 116; refine (Tryz.internal_strconv_lower _ _).mono ?_; rintro e w' ⟨rfl, rfl⟩)
          refine ⟨⟨k + 1, acc * 16 + hv c, a * 16 + ((c.toNat : Int) - 97 + 10), rfl, (by first | rfl | (congr 1; omega)), (by first | rfl | (congr 1; omega)), by omega, HN⟩, by simp [intOf]; omega⟩
    · have hkk : k = t.size := by omega
      subst hkk
      have hF : pu16 acc (bs.drop t.size) = .ok acc := by rw [List.drop_eq_nil_of_le (by omega)]; rfl
      rw [hF] at hdec
      subst ha
      clear hacc hF a0 a1
      go_wp2
      go_ret2
      first | exact ⟨rfl, rfl⟩ | exact ⟨by rw [hdec]; rfl, rfl⟩
theorem But.bytes (w : World) (t : ByteArray) : But [] w (Lib.bytesWorld w 5 t) := But.of_below (Lib.bytesWorld_below w 5 t)
/-- strconv.ParseUint(t, 16, 64) at hexadecimal digits. -/
theorem pu_ok (t : ByteArray) (hne : t.size ≠ 0) (hmax : t.size ≤ 4294967280) (hH : ∀ c ∈ t.data.toList, isH c = true) (n : Nat) (hn : pu16 0 t.data.toList = .ok n) (w : World) :
    Calls Tryz.prog 74 #[.string t, .int .i64 16, .int .i64 64] w fun e w' => e = .returned (.tuple #[.int .u64 n, .nilIface]) ∧ But [] w w' := by
  go_enter Tryz.func74, Tryz.ntmps74
  go_wp2_with (go_at_call 93; refine (ipu_any t hne (by omega) hH _).mono ?_; rintro e w1 ⟨rfl, rfl⟩; rw [hn]; unfold Lib.uintTuple)
  go_ret2
  exact ⟨rfl, But.bytes w t⟩
theorem pu_no (t : ByteArray) (hne : t.size ≠ 0) (hmax : t.size ≤ 4294967280) (hH : ∀ c ∈ t.data.toList, isH c = true) (hn : pu16 0 t.data.toList = .range) (w : World) (hg : Gl w) :
    Calls Tryz.prog 74 #[.string t, .int .i64 16, .int .i64 64] w fun e w' => (∃ (x : Int) (T : TypeId) (v : Value), e = .returned (.tuple #[.int .u64 x, .iface T v])) ∧ But [] w w' := by
  obtain ⟨te, pe, hv⟩ := (hg.keep (But.bytes w t) (by simp)).rng
  go_enter Tryz.func74, Tryz.ntmps74
  go_wp2_with (first | (go_at_call 93; refine (ipu_any t hne (by omega) hH _).mono ?_; rintro e w1 ⟨rfl, rfl⟩; rw [hn]; unfold Lib.uintTuple) | (go_at_call 90; refine (Tryz.strconv_toError_range _ t 16 64 (.iface te pe) _ (by omega) hv (.inr ⟨te, pe, rfl⟩)).mono ?_; rintro e w2 ⟨N, rfl, _, _, hbel⟩))
  go_ret2
  exact ⟨⟨_, _, _, rfl⟩, (But.bytes w t).trans (But.of_below hbel)⟩
end Go.Proofs.YtnghppgpdeghfaaGreatDoor
