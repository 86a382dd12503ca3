/- strconv.ParseUint at base 16. text.right: is a text a float's? text.right: what is no float's text. text.right, whole. -/
import Derived.Test.YtnghppgpdeghfaaGreatDoorZf5
import Derived.Lib.ConvBytes
import Derived.Lib.AtoiAllMem
import Derived.Lib.AtoiErrMem
import Derived.Lib.Walk
import Derived.Laws.Closers25
import Derived.Laws.Closers25b
import Derived.BigCall
import Derived.BigGuard
import Derived.Test.YtnghppgpdeghfaaGreatDoorZf6
namespace Go.Proofs.YtnghppgpdeghfaaGreatDoor
open Go.RowKit Go.Proofs.YtnghppgpdeghfaaGreatDoor.Fl Go.Proofs.YtnghppgpdeghfaaGreatDoor.Pt Go.Proofs.YtnghppgpdeghfaaGreatDoor.Tx

theorem or32 : ∀ n : Nat, n < 103 → 97 ≤ n → bits .or .u8 (n : Int) 32 = (n : Int) := by decide +kernel
set_option linter.unusedSimpArgs false in
set_option maxHeartbeats 32000000 in
set_option maxRecDepth 100000 in
theorem ipu_any (t : ByteArray) (hne : t.size ≠ 0) (hmax : t.size ≤ 9223372036854775806) (hH : ∀ c ∈ t.data.toList, isH c = true) (w : World) :
    Calls Tryz.prog 93 #[.string t, .int .i64 16, .int .i64 64] w fun e w' => e = .returned (Lib.uintTuple 153 (pu16 0 t.data.toList)) ∧ w' = Lib.bytesWorld w 5 t := by
  have hemp : t.toList.isEmpty = false := by
    rw [← decide_eq_emptyBytes]
    exact decide_eq_false (fun h => hne (by rw [h]; rfl))
  have hcv := Lib.run_convert_string_bytes (P := Tryz.prog) w 9 32 5 t (u := .string) Tryz.underlying9 Tryz.underlying32 Tryz.underlying5
  have hB : ∀ j, j < t.size → (Lib.bytesWorld w 5 t).cell? ⟨w.heap.size, j, none⟩ = some (.int .u8 (t.data.toList.getD j 0).toNat) := fun j hj => Lib.bytesWorld_cell w 5 t j hj
  obtain ⟨W1, hW1⟩ : ∃ W1, W1 = Lib.bytesWorld w 5 t := ⟨_, rfl⟩
  rw [← hW1] at hcv hB ⊢
  clear hW1
  obtain ⟨bs, hL⟩ : ∃ bs, bs = t.data.toList := ⟨_, rfl⟩
  have hLn : bs.length = t.size := by rw [hL, Lib.size_eq]
  rw [← hL] at hB hH ⊢
  clear hL
  have HH := Lib.hid hH
  clear hH
  have hmv : IntKind.u64.wrap (IntKind.u64.wrap 18446744073709551616 - 1) = 18446744073709551615 := by
    rw [IntKind.wrap_u64, IntKind.wrap_u64]
    decide
  go_enter Tryz.func93, Tryz.ntmps93
  go_wp2
  go_loop [12, 13, 101] (fun vu vn vi => ∃ (k acc : Nat) (a : Int), vu = .bool false ∧ vn = .int .u64 a ∧ vi = .int .i64 k ∧ k ≤ t.size ∧ Hid (a = (acc : Int) ∧ acc < 18446744073709551616 ∧ pu16 0 bs = pu16 acc (bs.drop k)))
    (fun _ _ vi => t.size - (intOf vi).toNat)
  case atStart => exact ⟨0, 0, 0, rfl, rfl, rfl, by omega, Lib.hid ⟨rfl, by omega, rfl⟩⟩
  case round =>
    obtain ⟨k, acc, a, rfl, rfl, rfl, hk, hh⟩ := hrel
    obtain ⟨ha, hacc, hdec⟩ := hh.out
    clear hh
    have a0 : 0 ≤ a := by omega
    have a1 : a < 18446744073709551616 := by omega
    by_cases hkn : k < t.size
    · have hc := hB k hkn
      have hdrop : bs.drop k = bs[k]'(by omega) :: bs.drop (k + 1) := List.drop_eq_getElem_cons (by omega)
      have hget : bs.getD k 0 = bs[k]'(by omega) := by simp [List.getD, List.getElem?_eq_getElem (show k < bs.length by omega)]
      have hHc : isH (bs[k]'(by omega)) = true := HH.out _ (List.getElem_mem _)
      rw [hdrop] at hdec
      rw [hget] at hc
      generalize bs[k]'(by omega) = c at hc hdec hHc
      have hc256 : c.toNat < 256 := c.toNat_lt
      clear hB hdrop hget
      by_cases hdig : c.toNat ≤ 57
      · have hd0 : 48 ≤ c.toNat := by unfold isH at hHc; simp at hHc; omega
        have hd1 := hdig
        have hhv : hv c = c.toNat - 48 := by unfold hv; rw [if_neg (by omega)]
        have hc16 : isH c = true := hHc
        by_cases hcut : 1152921504606846976 ≤ acc
        · have hF : pu16 acc (c :: bs.drop (k + 1)) = .range := by rw [pu16, if_pos hc16, if_pos hcut]
          rw [hF] at hdec
          have icut : 1152921504606846976 ≤ a := by omega
          clear hcut hacc hF ha hhv
          go_wp2
          go_ret2
          first | exact ⟨rfl, rfl⟩ | exact ⟨by rw [hdec]; rfl, rfl⟩
        · have hF : pu16 acc (c :: bs.drop (k + 1)) = pu16 (acc * 16 + hv c) (bs.drop (k + 1)) := by rw [pu16, if_pos hc16, if_neg hcut]
          have hm16 : IntKind.u64.wrap (a * 16) = a * 16 := by rw [IntKind.wrap_u64]; omega
          have HN : Hid (a * 16 + ((c.toNat : Int) - 48) = ((acc * 16 + hv c : Nat) : Int) ∧ acc * 16 + hv c < 18446744073709551616 ∧ pu16 0 bs = pu16 (acc * 16 + hv c) (bs.drop (k + 1))) := Lib.hid ⟨by omega, by omega, hdec.trans hF⟩
          have icut : a < 1152921504606846976 := by omega
          have iov : a * 16 + ((c.toNat : Int) - 48) < 18446744073709551616 := by omega
          have hwr : IntKind.u64.wrap (a * 16 + ((c.toNat : Int) - 48)) = a * 16 + ((c.toNat : Int) - 48) := by rw [IntKind.wrap_u64]; omega
          clear hcut hacc hF hdec ha hhv
          go_wp2
          refine ⟨⟨k + 1, acc * 16 + hv c, a * 16 + ((c.toNat : Int) - 48), rfl, (by first | rfl | (congr 1; omega)), (by first | rfl | (congr 1; omega)), by omega, HN⟩, by simp [intOf]; omega⟩
      · have hl : 97 ≤ c.toNat ∧ c.toNat ≤ 102 := by unfold isH at hHc; simp at hHc; omega
        obtain ⟨hl0, hl1⟩ := hl
        have hhv : hv c = c.toNat - 87 := by unfold hv; rw [if_pos hl0]
        have hlow := or32 c.toNat (by omega) hl0
        have hc16 : isH c = true := hHc
        by_cases hcut : 1152921504606846976 ≤ acc
        · have hF : pu16 acc (c :: bs.drop (k + 1)) = .range := by rw [pu16, if_pos hc16, if_pos hcut]
          rw [hF] at hdec
          have icut : 1152921504606846976 ≤ a := by omega
          clear hcut hacc hF ha hhv
          go_wp2_with (go_at_call 116; refine (Tryz.internal_strconv_lower _ _).mono ?_; rintro e w' ⟨rfl, rfl⟩)
          go_ret2
          first | exact ⟨rfl, rfl⟩ | exact ⟨by rw [hdec]; rfl, rfl⟩
        · have hF : pu16 acc (c :: bs.drop (k + 1)) = pu16 (acc * 16 + hv c) (bs.drop (k + 1)) := by rw [pu16, if_pos hc16, if_neg hcut]
          have hm16 : IntKind.u64.wrap (a * 16) = a * 16 := by rw [IntKind.wrap_u64]; omega
          have HN : Hid (a * 16 + ((c.toNat : Int) - 97 + 10) = ((acc * 16 + hv c : Nat) : Int) ∧ acc * 16 + hv c < 18446744073709551616 ∧ pu16 0 bs = pu16 (acc * 16 + hv c) (bs.drop (k + 1))) := Lib.hid ⟨by omega, by omega, hdec.trans hF⟩
          have icut : a < 1152921504606846976 := by omega
          have iov : a * 16 + ((c.toNat : Int) - 97 + 10) < 18446744073709551616 := by omega
          have hwr : IntKind.u64.wrap (a * 16 + ((c.toNat : Int) - 97 + 10)) = a * 16 + ((c.toNat : Int) - 97 + 10) := by rw [IntKind.wrap_u64]; omega
          clear hcut hacc hF hdec ha hhv
          go_wp2_with (go_at_call 116; refine (Tryz.internal_strconv_lower _ _).mono ?_; rintro e w' ⟨rfl, rfl⟩)
          refine ⟨⟨k + 1, acc * 16 + hv c, a * 16 + ((c.toNat : Int) - 97 + 10), rfl, (by first | rfl | (congr 1; omega)), (by first | rfl | (congr 1; omega)), by omega, HN⟩, by simp [intOf]; omega⟩
    · have hkk : k = t.size := by omega
      subst hkk
      have hF : pu16 acc (bs.drop t.size) = .ok acc := by rw [List.drop_eq_nil_of_le (by omega)]; rfl
      rw [hF] at hdec
      subst ha
      clear hacc hF a0 a1
      go_wp2
      go_ret2
      first | exact ⟨rfl, rfl⟩ | exact ⟨by rw [hdec]; rfl, rfl⟩
theorem But.bytes (w : World) (t : ByteArray) : But [] w (Lib.bytesWorld w 5 t) := But.of_below (Lib.bytesWorld_below w 5 t)
/-- strconv.ParseUint(t, 16, 64) at hexadecimal digits. -/
theorem pu_ok (t : ByteArray) (hne : t.size ≠ 0) (hmax : t.size ≤ 4294967280) (hH : ∀ c ∈ t.data.toList, isH c = true) (n : Nat) (hn : pu16 0 t.data.toList = .ok n) (w : World) :
    Calls Tryz.prog 74 #[.string t, .int .i64 16, .int .i64 64] w fun e w' => e = .returned (.tuple #[.int .u64 n, .nilIface]) ∧ But [] w w' := by
  go_enter Tryz.func74, Tryz.ntmps74
  go_wp2_with (go_at_call 93; refine (ipu_any t hne (by omega) hH _).mono ?_; rintro e w1 ⟨rfl, rfl⟩; rw [hn]; unfold Lib.uintTuple)
  go_ret2
  exact ⟨rfl, But.bytes w t⟩
theorem pu_no (t : ByteArray) (hne : t.size ≠ 0) (hmax : t.size ≤ 4294967280) (hH : ∀ c ∈ t.data.toList, isH c = true) (hn : pu16 0 t.data.toList = .range) (w : World) (hg : Gl w) :
    Calls Tryz.prog 74 #[.string t, .int .i64 16, .int .i64 64] w fun e w' => (∃ (x : Int) (T : TypeId) (v : Value), e = .returned (.tuple #[.int .u64 x, .iface T v])) ∧ But [] w w' := by
  obtain ⟨te, pe, hv⟩ := (hg.keep (But.bytes w t) (by simp)).rng
  go_enter Tryz.func74, Tryz.ntmps74
  go_wp2_with (first | (go_at_call 93; refine (ipu_any t hne (by omega) hH _).mono ?_; rintro e w1 ⟨rfl, rfl⟩; rw [hn]; unfold Lib.uintTuple) | (go_at_call 90; refine (Tryz.strconv_toError_range _ t 16 64 (.iface te pe) _ (by omega) hv (.inr ⟨te, pe, rfl⟩)).mono ?_; rintro e w2 ⟨N, rfl, _, _, hbel⟩))
  go_ret2
  exact ⟨⟨_, _, _, rfl⟩, (But.bytes w t).trans (But.of_below hbel)⟩
end Go.Proofs.YtnghppgpdeghfaaGreatDoor
namespace Go.Proofs.YtnghppgpdeghfaaGreatDoor
open Go.RowKit Go.Proofs.YtnghppgpdeghfaaGreatDoor.Fl Go.Proofs.YtnghppgpdeghfaaGreatDoor.Pt Go.Proofs.YtnghppgpdeghfaaGreatDoor.Tx

theorem toList_str (l : List UInt8) : (str l).toList = l := by simp [str, ByteArray.toList_eq]
theorem beq_dec (a b : List UInt8) : (a == b) = decide (a = b) := by rw [Bool.eq_iff_iff]; simp
theorem ib_p : ∀ (M T : List UInt8), (112 : UInt8) ∉ M → Lib.indexByte (M ++ 112 :: T) 112 = (M.length : Int)
  | [], T, _ => by simp [Lib.indexByte]
  | c :: M, T, h => by
    have h1 : ¬ (c == 112) = true := fun h' => h (by rw [eq_of_beq h']; simp)
    have ih := ib_p M T (fun hm => h (by simp [hm]))
    show (if c == 112 then (0 : Int) else if Lib.indexByte (M ++ 112 :: T) 112 == -1 then -1 else Lib.indexByte (M ++ 112 :: T) 112 + 1) = _
    rw [if_neg h1, ih, if_neg (by simp <;> omega)]
    simp
theorem cut_p (M T : List UInt8) (h : (112 : UInt8) ∉ M) : Lib.cut (M ++ 112 :: T) [112] = (M, T, true) := by
  unfold Lib.cut
  rw [Lib.index_one, ib_p M T h, if_pos (by omega)]
  simp
theorem trim_p (neg : Bool) (M T : List UInt8) : Lib.trimPrefix (tok neg M T) [45] = [48, 120] ++ (M ++ 112 :: T) := by
  unfold Lib.trimPrefix Lib.hasPrefix tok
  cases neg <;> simp

set_option linter.unusedSimpArgs false in
set_option maxRecDepth 100000 in
set_option maxHeartbeats 2000000 in
theorem right_tok (neg : Bool) (M T : List UInt8) (hM : ∀ c ∈ M, isH c = true) (hM0 : M ≠ []) (hl : (tok neg M T).length ≤ 65536) (n : Nat) (k : Int) (hn : pu16 0 M = .ok n) (hk : Lib.atoiAll T = .ok k) (k1 : -2000 ≤ k) (k2 : k ≤ 2000) (w : World) (hg : Gl w) :
    Calls Tryz.prog 62 #[.string (str (tok neg M T))] w fun e w' => e = .returned (.tuple #[.float .f64 (wd neg (joinN n k)), .bool (decide (fl (wd neg (joinN n k)) = tok neg M T))]) ∧ But [] w w' := by
  obtain ⟨m5, hm5⟩ := hg.max
  have htl : (str (tok neg M T)).toList = tok neg M T := toList_str _
  have s1 : ((str (tok neg M T)).toList == [110, 97, 110]) = false := by rw [htl]; unfold tok; cases neg <;> simp
  have s2 : ((str (tok neg M T)).toList == [105, 110, 102]) = false := by rw [htl]; unfold tok; cases neg <;> simp
  have s3 : ((str (tok neg M T)).toList == [45, 105, 110, 102]) = false := by rw [htl]; unfold tok; cases neg <;> simp
  have htr : (⟨(Lib.trimPrefix (str (tok neg M T)).data.toList (⟨#[45]⟩ : ByteArray).data.toList).toArray⟩ : ByteArray) = str ([48, 120] ++ (M ++ 112 :: T)) := by
    unfold str
    simp only [List.toList_toArray]
    rw [trim_p]
  clear htl
  have hsz : (str (48 :: 120 :: (M ++ 112 :: T))).size = M.length + (T.length + 1) + 1 + 1 := by simp [str, ByteArray.size]
  have hex : (str (48 :: 120 :: (M ++ 112 :: T))).extract 2 (M.length + (T.length + 1) + 1 + 1) = str (M ++ 112 :: T) := by
    apply ByteArray.ext
    simp [str]
    exact List.take_of_length_le (by simp)
  have hlen : M.length + T.length + 3 ≤ 65536 := by unfold tok at hl; cases neg <;> simp at hl <;> omega
  have hct : ∀ (s : ByteArray), s = str (M ++ 112 :: T) → (Lib.cut s.data.toList (⟨#[112]⟩ : ByteArray).data.toList) = (M, T, true) := fun s hs => by
    rw [hs]
    unfold str
    simp only [List.toList_toArray]
    exact cut_p M T (no_p hM)
  go_enter Tryz.func62, Tryz.ntmps62
  go_wp2_with (go_at_call 73; refine (Tryz.strings_TrimPrefix _ _ _).mono ?_; rintro e w1 ⟨rfl, hw1⟩; rw [hw1, htr]; clear hw1 w1)
  go_wp2_with (go_at_call 72; refine (Tryz.strings_Cut _ _ m5 _ (by simp [str, ByteArray.size]; omega) hm5).mono ?_; rintro e w1 ⟨rfl, nq, rfl⟩; rw [hct _ rfl])
  have hbq : But [] w (w.drewN nq) := (But.refl _ _).drewN nq
  have hMs : (⟨M.toArray⟩ : ByteArray).size = M.length := by simp [ByteArray.size]
  have hTs : (⟨T.toArray⟩ : ByteArray).size = T.length := by simp [ByteArray.size]
  have hM1 : M.length ≠ 0 := fun h => hM0 (List.length_eq_zero_iff.1 h)
  have h0i : ∀ hp, (str (tok neg M T))[0]'hp = if neg then 45 else 48 := fun hp => by
    cases neg <;> rfl
  have htl := toList_str (tok neg M T)
  have hp0 : 0 < (str (tok neg M T)).size := by cases neg <;> simp [str, tok, ByteArray.size]
  cases neg
  all_goals
    go_wp2_with (first
      | (go_at_call 74; refine (pu_ok ⟨M.toArray⟩ (by rw [hMs]; exact hM1) (by rw [hMs]; omega) (by simpa using hM) n (by simpa using hn) _).mono ?_; rintro e w1 ⟨rfl, hb1⟩)
      | (go_at_call 75; refine (Tryz.strconv_Atoi_ok ⟨T.toArray⟩ (by rw [hTs]; omega) k (by simpa using hk) _).mono ?_; rintro e w2 ⟨rfl, hw2⟩; have hb2 : But [] w1 w2 := (by rcases hw2 with rfl | ⟨t, rfl⟩; exact But.refl _ _; exact But.bytes _ _); clear hw2)
      | (go_at_call 76; refine (join_any _ n k (by omega) (by have := pu16_lt _ _ _ (by omega) hn; omega) _).mono ?_; rintro e w3 ⟨rfl, hw3⟩; rw [← hw3]; clear hw3 w3)
      | (go_at_call 26; refine (float_any _ (wd_lt _ (Nat.lt_of_le_of_lt (by rw [joinN_RN (by have := pu16_lt _ _ _ (by omega) hn; omega)]; exact RN_le _ _) (by decide))) _ (hg.keep ((hbq.trans hb1).trans hb2) (by simp))).mono ?_; rintro e w4 ⟨rfl, hb4⟩))
    go_ret2
    exact ⟨by simp [toList_str, beq_dec], ((hbq.trans hb1).trans hb2).trans hb4⟩
end Go.Proofs.YtnghppgpdeghfaaGreatDoor
namespace Go.Proofs.YtnghppgpdeghfaaGreatDoor
open Go.RowKit Go.Proofs.YtnghppgpdeghfaaGreatDoor.Fl Go.Proofs.YtnghppgpdeghfaaGreatDoor.Pt Go.Proofs.YtnghppgpdeghfaaGreatDoor.Tx

theorem atoi_no (s : ByteArray) (hs : s.size ≤ 281474976710656) (h : ∀ k, Lib.atoiAll s.data.toList ≠ .ok k) (w : World) (hg : Gl w) :
    Calls Tryz.prog 75 #[.string s] w fun e w' => (∃ (k : Int) (T : TypeId) (v : Value), e = .returned (.tuple #[.int .i64 k, .iface T v])) ∧ But [] w w' := by
  cases hk : Lib.atoiAll s.data.toList with
  | ok k => exact absurd hk (h k)
  | range =>
    obtain ⟨te, pe, hv⟩ := hg.rng
    exact (Tryz.strconv_Atoi_range s hs hk (.iface te pe) w hv (.inr ⟨te, pe, rfl⟩)).mono fun e w' ⟨N, h1, _, _, h2⟩ => ⟨⟨_, _, _, h1⟩, But.of_below h2⟩
  | _ =>
    obtain ⟨te, pe, hv⟩ := hg.syn
    exact (Tryz.strconv_Atoi_syntax s hs hk (.iface te pe) w hv (.inr ⟨te, pe, rfl⟩)).mono fun e w' ⟨N, h1, _, _, h2⟩ => ⟨⟨_, _, _, h1⟩, But.of_below h2⟩

set_option linter.unusedSimpArgs false in
set_option maxRecDepth 100000 in
set_option maxHeartbeats 2000000 in
theorem right_a (neg : Bool) (M T : List UInt8) (hM : ∀ c ∈ M, isH c = true) (hM0 : M ≠ []) (hl : (tok neg M T).length ≤ 65536) (hn : pu16 0 M = .range) (k : Int) (hk : Lib.atoiAll T = .ok k) (w : World) (hg : Gl w) :
    Calls Tryz.prog 62 #[.string (str (tok neg M T))] w fun e w' => e = .returned (.tuple #[.float .f64 0, .bool false]) ∧ But [] w w' := by
  obtain ⟨m5, hm5⟩ := hg.max
  have htl : (str (tok neg M T)).toList = tok neg M T := toList_str _
  have s1 : ((str (tok neg M T)).toList == [110, 97, 110]) = false := by rw [htl]; unfold tok; cases neg <;> simp
  have s2 : ((str (tok neg M T)).toList == [105, 110, 102]) = false := by rw [htl]; unfold tok; cases neg <;> simp
  have s3 : ((str (tok neg M T)).toList == [45, 105, 110, 102]) = false := by rw [htl]; unfold tok; cases neg <;> simp
  have htr : (⟨(Lib.trimPrefix (str (tok neg M T)).data.toList (⟨#[45]⟩ : ByteArray).data.toList).toArray⟩ : ByteArray) = str ([48, 120] ++ (M ++ 112 :: T)) := by
    unfold str
    simp only [List.toList_toArray]
    rw [trim_p]
  clear htl
  have hsz : (str (48 :: 120 :: (M ++ 112 :: T))).size = M.length + (T.length + 1) + 1 + 1 := by simp [str, ByteArray.size]
  have hex : (str (48 :: 120 :: (M ++ 112 :: T))).extract 2 (M.length + (T.length + 1) + 1 + 1) = str (M ++ 112 :: T) := by
    apply ByteArray.ext
    simp [str]
    exact List.take_of_length_le (by simp)
  have hlen : M.length + T.length + 3 ≤ 65536 := by unfold tok at hl; cases neg <;> simp at hl <;> omega
  have hct : ∀ (s : ByteArray), s = str (M ++ 112 :: T) → (Lib.cut s.data.toList (⟨#[112]⟩ : ByteArray).data.toList) = (M, T, true) := fun s hs => by
    rw [hs]
    unfold str
    simp only [List.toList_toArray]
    exact cut_p M T (no_p hM)
  go_enter Tryz.func62, Tryz.ntmps62
  go_wp2_with (go_at_call 73; refine (Tryz.strings_TrimPrefix _ _ _).mono ?_; rintro e w1 ⟨rfl, hw1⟩; rw [hw1, htr]; clear hw1 w1)
  go_wp2_with (go_at_call 72; refine (Tryz.strings_Cut _ _ m5 _ (by simp [str, ByteArray.size]; omega) hm5).mono ?_; rintro e w1 ⟨rfl, nq, rfl⟩; rw [hct _ rfl])
  have hbq : But [] w (w.drewN nq) := (But.refl _ _).drewN nq
  have hMs : (⟨M.toArray⟩ : ByteArray).size = M.length := by simp [ByteArray.size]
  have hTs : (⟨T.toArray⟩ : ByteArray).size = T.length := by simp [ByteArray.size]
  have hM1 : M.length ≠ 0 := fun h => hM0 (List.length_eq_zero_iff.1 h)
  go_wp2_with (first
    | (go_at_call 74; refine (pu_no ⟨M.toArray⟩ (by rw [hMs]; exact hM1) (by rw [hMs]; omega) (by simpa using hM) (by simpa using hn) _ (hg.keep hbq (by simp))).mono ?_; rintro e w1 ⟨⟨xx, TT, vv, rfl⟩, hb1⟩)
    | (go_at_call 75; refine (Tryz.strconv_Atoi_ok ⟨T.toArray⟩ (by rw [hTs]; omega) k (by simpa using hk) _).mono ?_; rintro e w2 ⟨rfl, hw2⟩; have hb2 : But [] w1 w2 := (by rcases hw2 with rfl | ⟨t, rfl⟩; exact But.refl _ _; exact But.bytes _ _); clear hw2))
  go_ret2
  exact ⟨rfl, (hbq.trans hb1).trans hb2⟩

set_option linter.unusedSimpArgs false in
set_option maxRecDepth 100000 in
set_option maxHeartbeats 2000000 in
theorem right_b (neg : Bool) (M T : List UInt8) (hM : ∀ c ∈ M, isH c = true) (hM0 : M ≠ []) (hl : (tok neg M T).length ≤ 65536) (hn : pu16 0 M = .range) (hk : ∀ k, Lib.atoiAll T ≠ .ok k) (w : World) (hg : Gl w) :
    Calls Tryz.prog 62 #[.string (str (tok neg M T))] w fun e w' => e = .returned (.tuple #[.float .f64 0, .bool false]) ∧ But [] w w' := by
  obtain ⟨m5, hm5⟩ := hg.max
  have htl : (str (tok neg M T)).toList = tok neg M T := toList_str _
  have s1 : ((str (tok neg M T)).toList == [110, 97, 110]) = false := by rw [htl]; unfold tok; cases neg <;> simp
  have s2 : ((str (tok neg M T)).toList == [105, 110, 102]) = false := by rw [htl]; unfold tok; cases neg <;> simp
  have s3 : ((str (tok neg M T)).toList == [45, 105, 110, 102]) = false := by rw [htl]; unfold tok; cases neg <;> simp
  have htr : (⟨(Lib.trimPrefix (str (tok neg M T)).data.toList (⟨#[45]⟩ : ByteArray).data.toList).toArray⟩ : ByteArray) = str ([48, 120] ++ (M ++ 112 :: T)) := by
    unfold str
    simp only [List.toList_toArray]
    rw [trim_p]
  clear htl
  have hsz : (str (48 :: 120 :: (M ++ 112 :: T))).size = M.length + (T.length + 1) + 1 + 1 := by simp [str, ByteArray.size]
  have hex : (str (48 :: 120 :: (M ++ 112 :: T))).extract 2 (M.length + (T.length + 1) + 1 + 1) = str (M ++ 112 :: T) := by
    apply ByteArray.ext
    simp [str]
    exact List.take_of_length_le (by simp)
  have hlen : M.length + T.length + 3 ≤ 65536 := by unfold tok at hl; cases neg <;> simp at hl <;> omega
  have hct : ∀ (s : ByteArray), s = str (M ++ 112 :: T) → (Lib.cut s.data.toList (⟨#[112]⟩ : ByteArray).data.toList) = (M, T, true) := fun s hs => by
    rw [hs]
    unfold str
    simp only [List.toList_toArray]
    exact cut_p M T (no_p hM)
  go_enter Tryz.func62, Tryz.ntmps62
  go_wp2_with (go_at_call 73; refine (Tryz.strings_TrimPrefix _ _ _).mono ?_; rintro e w1 ⟨rfl, hw1⟩; rw [hw1, htr]; clear hw1 w1)
  go_wp2_with (go_at_call 72; refine (Tryz.strings_Cut _ _ m5 _ (by simp [str, ByteArray.size]; omega) hm5).mono ?_; rintro e w1 ⟨rfl, nq, rfl⟩; rw [hct _ rfl])
  have hbq : But [] w (w.drewN nq) := (But.refl _ _).drewN nq
  have hMs : (⟨M.toArray⟩ : ByteArray).size = M.length := by simp [ByteArray.size]
  have hTs : (⟨T.toArray⟩ : ByteArray).size = T.length := by simp [ByteArray.size]
  have hM1 : M.length ≠ 0 := fun h => hM0 (List.length_eq_zero_iff.1 h)
  go_wp2_with (first
    | (go_at_call 74; refine (pu_no ⟨M.toArray⟩ (by rw [hMs]; exact hM1) (by rw [hMs]; omega) (by simpa using hM) (by simpa using hn) _ (hg.keep hbq (by simp))).mono ?_; rintro e w1 ⟨⟨xx, TT, vv, rfl⟩, hb1⟩)
    | (go_at_call 75; refine (atoi_no ⟨T.toArray⟩ (by rw [hTs]; omega) (by simpa using hk) _ (hg.keep (hbq.trans hb1) (by simp))).mono ?_; rintro e w2 ⟨⟨kk, ta, va, rfl⟩, hb2⟩))
  go_ret2
  exact ⟨rfl, (hbq.trans hb1).trans hb2⟩

set_option linter.unusedSimpArgs false in
set_option maxRecDepth 100000 in
set_option maxHeartbeats 2000000 in
theorem right_c (neg : Bool) (M T : List UInt8) (hM : ∀ c ∈ M, isH c = true) (hM0 : M ≠ []) (hl : (tok neg M T).length ≤ 65536) (n : Nat) (hn : pu16 0 M = .ok n) (hk : ∀ k, Lib.atoiAll T ≠ .ok k) (w : World) (hg : Gl w) :
    Calls Tryz.prog 62 #[.string (str (tok neg M T))] w fun e w' => e = .returned (.tuple #[.float .f64 0, .bool false]) ∧ But [] w w' := by
  obtain ⟨m5, hm5⟩ := hg.max
  have htl : (str (tok neg M T)).toList = tok neg M T := toList_str _
  have s1 : ((str (tok neg M T)).toList == [110, 97, 110]) = false := by rw [htl]; unfold tok; cases neg <;> simp
  have s2 : ((str (tok neg M T)).toList == [105, 110, 102]) = false := by rw [htl]; unfold tok; cases neg <;> simp
  have s3 : ((str (tok neg M T)).toList == [45, 105, 110, 102]) = false := by rw [htl]; unfold tok; cases neg <;> simp
  have htr : (⟨(Lib.trimPrefix (str (tok neg M T)).data.toList (⟨#[45]⟩ : ByteArray).data.toList).toArray⟩ : ByteArray) = str ([48, 120] ++ (M ++ 112 :: T)) := by
    unfold str
    simp only [List.toList_toArray]
    rw [trim_p]
  clear htl
  have hsz : (str (48 :: 120 :: (M ++ 112 :: T))).size = M.length + (T.length + 1) + 1 + 1 := by simp [str, ByteArray.size]
  have hex : (str (48 :: 120 :: (M ++ 112 :: T))).extract 2 (M.length + (T.length + 1) + 1 + 1) = str (M ++ 112 :: T) := by
    apply ByteArray.ext
    simp [str]
    exact List.take_of_length_le (by simp)
  have hlen : M.length + T.length + 3 ≤ 65536 := by unfold tok at hl; cases neg <;> simp at hl <;> omega
  have hct : ∀ (s : ByteArray), s = str (M ++ 112 :: T) → (Lib.cut s.data.toList (⟨#[112]⟩ : ByteArray).data.toList) = (M, T, true) := fun s hs => by
    rw [hs]
    unfold str
    simp only [List.toList_toArray]
    exact cut_p M T (no_p hM)
  go_enter Tryz.func62, Tryz.ntmps62
  go_wp2_with (go_at_call 73; refine (Tryz.strings_TrimPrefix _ _ _).mono ?_; rintro e w1 ⟨rfl, hw1⟩; rw [hw1, htr]; clear hw1 w1)
  go_wp2_with (go_at_call 72; refine (Tryz.strings_Cut _ _ m5 _ (by simp [str, ByteArray.size]; omega) hm5).mono ?_; rintro e w1 ⟨rfl, nq, rfl⟩; rw [hct _ rfl])
  have hbq : But [] w (w.drewN nq) := (But.refl _ _).drewN nq
  have hMs : (⟨M.toArray⟩ : ByteArray).size = M.length := by simp [ByteArray.size]
  have hTs : (⟨T.toArray⟩ : ByteArray).size = T.length := by simp [ByteArray.size]
  have hM1 : M.length ≠ 0 := fun h => hM0 (List.length_eq_zero_iff.1 h)
  go_wp2_with (first
    | (go_at_call 74; refine (pu_ok ⟨M.toArray⟩ (by rw [hMs]; exact hM1) (by rw [hMs]; omega) (by simpa using hM) n (by simpa using hn) _).mono ?_; rintro e w1 ⟨rfl, hb1⟩)
    | (go_at_call 75; refine (atoi_no ⟨T.toArray⟩ (by rw [hTs]; omega) (by simpa using hk) _ (hg.keep (hbq.trans hb1) (by simp))).mono ?_; rintro e w2 ⟨⟨kk, ta, va, rfl⟩, hb2⟩))
  go_ret2
  exact ⟨rfl, (hbq.trans hb1).trans hb2⟩

set_option linter.unusedSimpArgs false in
set_option maxRecDepth 100000 in
set_option maxHeartbeats 2000000 in
theorem right_d (neg : Bool) (M T : List UInt8) (hM : ∀ c ∈ M, isH c = true) (hM0 : M ≠ []) (hl : (tok neg M T).length ≤ 65536) (n : Nat) (hn : pu16 0 M = .ok n) (k : Int) (hk : Lib.atoiAll T = .ok k) (k1 : k < -2000) (w : World) (hg : Gl w) :
    Calls Tryz.prog 62 #[.string (str (tok neg M T))] w fun e w' => e = .returned (.tuple #[.float .f64 0, .bool false]) ∧ But [] w w' := by
  obtain ⟨m5, hm5⟩ := hg.max
  have htl : (str (tok neg M T)).toList = tok neg M T := toList_str _
  have s1 : ((str (tok neg M T)).toList == [110, 97, 110]) = false := by rw [htl]; unfold tok; cases neg <;> simp
  have s2 : ((str (tok neg M T)).toList == [105, 110, 102]) = false := by rw [htl]; unfold tok; cases neg <;> simp
  have s3 : ((str (tok neg M T)).toList == [45, 105, 110, 102]) = false := by rw [htl]; unfold tok; cases neg <;> simp
  have htr : (⟨(Lib.trimPrefix (str (tok neg M T)).data.toList (⟨#[45]⟩ : ByteArray).data.toList).toArray⟩ : ByteArray) = str ([48, 120] ++ (M ++ 112 :: T)) := by
    unfold str
    simp only [List.toList_toArray]
    rw [trim_p]
  clear htl
  have hsz : (str (48 :: 120 :: (M ++ 112 :: T))).size = M.length + (T.length + 1) + 1 + 1 := by simp [str, ByteArray.size]
  have hex : (str (48 :: 120 :: (M ++ 112 :: T))).extract 2 (M.length + (T.length + 1) + 1 + 1) = str (M ++ 112 :: T) := by
    apply ByteArray.ext
    simp [str]
    exact List.take_of_length_le (by simp)
  have hlen : M.length + T.length + 3 ≤ 65536 := by unfold tok at hl; cases neg <;> simp at hl <;> omega
  have hct : ∀ (s : ByteArray), s = str (M ++ 112 :: T) → (Lib.cut s.data.toList (⟨#[112]⟩ : ByteArray).data.toList) = (M, T, true) := fun s hs => by
    rw [hs]
    unfold str
    simp only [List.toList_toArray]
    exact cut_p M T (no_p hM)
  go_enter Tryz.func62, Tryz.ntmps62
  go_wp2_with (go_at_call 73; refine (Tryz.strings_TrimPrefix _ _ _).mono ?_; rintro e w1 ⟨rfl, hw1⟩; rw [hw1, htr]; clear hw1 w1)
  go_wp2_with (go_at_call 72; refine (Tryz.strings_Cut _ _ m5 _ (by simp [str, ByteArray.size]; omega) hm5).mono ?_; rintro e w1 ⟨rfl, nq, rfl⟩; rw [hct _ rfl])
  have hbq : But [] w (w.drewN nq) := (But.refl _ _).drewN nq
  have hMs : (⟨M.toArray⟩ : ByteArray).size = M.length := by simp [ByteArray.size]
  have hTs : (⟨T.toArray⟩ : ByteArray).size = T.length := by simp [ByteArray.size]
  have hM1 : M.length ≠ 0 := fun h => hM0 (List.length_eq_zero_iff.1 h)
  go_wp2_with (first
    | (go_at_call 74; refine (pu_ok ⟨M.toArray⟩ (by rw [hMs]; exact hM1) (by rw [hMs]; omega) (by simpa using hM) n (by simpa using hn) _).mono ?_; rintro e w1 ⟨rfl, hb1⟩)
    | (go_at_call 75; refine (Tryz.strconv_Atoi_ok ⟨T.toArray⟩ (by rw [hTs]; omega) k (by simpa using hk) _).mono ?_; rintro e w2 ⟨rfl, hw2⟩; have hb2 : But [] w1 w2 := (by rcases hw2 with rfl | ⟨t, rfl⟩; exact But.refl _ _; exact But.bytes _ _); clear hw2))
  go_ret2
  exact ⟨rfl, (hbq.trans hb1).trans hb2⟩

set_option linter.unusedSimpArgs false in
set_option maxRecDepth 100000 in
set_option maxHeartbeats 2000000 in
theorem right_e (neg : Bool) (M T : List UInt8) (hM : ∀ c ∈ M, isH c = true) (hM0 : M ≠ []) (hl : (tok neg M T).length ≤ 65536) (n : Nat) (hn : pu16 0 M = .ok n) (k : Int) (hk : Lib.atoiAll T = .ok k) (k1 : 2000 < k) (w : World) (hg : Gl w) :
    Calls Tryz.prog 62 #[.string (str (tok neg M T))] w fun e w' => e = .returned (.tuple #[.float .f64 0, .bool false]) ∧ But [] w w' := by
  obtain ⟨m5, hm5⟩ := hg.max
  have htl : (str (tok neg M T)).toList = tok neg M T := toList_str _
  have s1 : ((str (tok neg M T)).toList == [110, 97, 110]) = false := by rw [htl]; unfold tok; cases neg <;> simp
  have s2 : ((str (tok neg M T)).toList == [105, 110, 102]) = false := by rw [htl]; unfold tok; cases neg <;> simp
  have s3 : ((str (tok neg M T)).toList == [45, 105, 110, 102]) = false := by rw [htl]; unfold tok; cases neg <;> simp
  have htr : (⟨(Lib.trimPrefix (str (tok neg M T)).data.toList (⟨#[45]⟩ : ByteArray).data.toList).toArray⟩ : ByteArray) = str ([48, 120] ++ (M ++ 112 :: T)) := by
    unfold str
    simp only [List.toList_toArray]
    rw [trim_p]
  clear htl
  have hsz : (str (48 :: 120 :: (M ++ 112 :: T))).size = M.length + (T.length + 1) + 1 + 1 := by simp [str, ByteArray.size]
  have hex : (str (48 :: 120 :: (M ++ 112 :: T))).extract 2 (M.length + (T.length + 1) + 1 + 1) = str (M ++ 112 :: T) := by
    apply ByteArray.ext
    simp [str]
    exact List.take_of_length_le (by simp)
  have hlen : M.length + T.length + 3 ≤ 65536 := by unfold tok at hl; cases neg <;> simp at hl <;> omega
  have hct : ∀ (s : ByteArray), s = str (M ++ 112 :: T) → (Lib.cut s.data.toList (⟨#[112]⟩ : ByteArray).data.toList) = (M, T, true) := fun s hs => by
    rw [hs]
    unfold str
    simp only [List.toList_toArray]
    exact cut_p M T (no_p hM)
  go_enter Tryz.func62, Tryz.ntmps62
  go_wp2_with (go_at_call 73; refine (Tryz.strings_TrimPrefix _ _ _).mono ?_; rintro e w1 ⟨rfl, hw1⟩; rw [hw1, htr]; clear hw1 w1)
  go_wp2_with (go_at_call 72; refine (Tryz.strings_Cut _ _ m5 _ (by simp [str, ByteArray.size]; omega) hm5).mono ?_; rintro e w1 ⟨rfl, nq, rfl⟩; rw [hct _ rfl])
  have hbq : But [] w (w.drewN nq) := (But.refl _ _).drewN nq
  have hMs : (⟨M.toArray⟩ : ByteArray).size = M.length := by simp [ByteArray.size]
  have hTs : (⟨T.toArray⟩ : ByteArray).size = T.length := by simp [ByteArray.size]
  have hM1 : M.length ≠ 0 := fun h => hM0 (List.length_eq_zero_iff.1 h)
  go_wp2_with (first
    | (go_at_call 74; refine (pu_ok ⟨M.toArray⟩ (by rw [hMs]; exact hM1) (by rw [hMs]; omega) (by simpa using hM) n (by simpa using hn) _).mono ?_; rintro e w1 ⟨rfl, hb1⟩)
    | (go_at_call 75; refine (Tryz.strconv_Atoi_ok ⟨T.toArray⟩ (by rw [hTs]; omega) k (by simpa using hk) _).mono ?_; rintro e w2 ⟨rfl, hw2⟩; have hb2 : But [] w1 w2 := (by rcases hw2 with rfl | ⟨t, rfl⟩; exact But.refl _ _; exact But.bytes _ _); clear hw2))
  go_ret2
  exact ⟨rfl, (hbq.trans hb1).trans hb2⟩

end Go.Proofs.YtnghppgpdeghfaaGreatDoor
namespace Go.Proofs.YtnghppgpdeghfaaGreatDoor
open Go.RowKit Go.Proofs.YtnghppgpdeghfaaGreatDoor.Fl Go.Proofs.YtnghppgpdeghfaaGreatDoor.Pt Go.Proofs.YtnghppgpdeghfaaGreatDoor.Tx

/-- What right answers of a text X. -/
def RtP (X : List UInt8) (w : World) (e : Ending) (w' : World) : Prop := ∃ (x : Nat) (ok : Bool), e = .returned (.tuple #[.float .f64 x, .bool ok]) ∧ But [] w w' ∧ x < 18446744073709551616 ∧ (ok = true → fl x = X) ∧ (ok = false → ¬ Rt X)
theorem right_num (neg : Bool) (M T : List UInt8) (hM : ∀ c ∈ M, isH c = true) (hM0 : M ≠ []) (hl : (tok neg M T).length ≤ 65536) (w : World) (hg : Gl w) :
    Calls Tryz.prog 62 #[.string (str (tok neg M T))] w (RtP (tok neg M T) w) := by
  have bad : (∀ n k, pu16 0 M = .ok n → Lib.atoiAll T = .ok k → -2000 ≤ k → k ≤ 2000 → False) → ¬ Rt (tok neg M T) := fun h hx => by
    obtain ⟨n, k, h1, h2, h3, h4, _⟩ := right_none hM hx
    exact h n k h1 h2 h3 h4
  have no : ∀ (h : ¬ Rt (tok neg M T)) {e : Ending} {w' : World}, (e = .returned (.tuple #[.float .f64 0, .bool false]) ∧ But [] w w') → RtP (tok neg M T) w e w' := fun h e w' ⟨h1, h2⟩ => ⟨0, false, h1, h2, by decide, (fun h' => by cases h'), fun _ => h⟩
  cases hn : pu16 0 M with
  | range =>
    have hb := bad (fun n k h1 => by rw [hn] at h1; cases h1)
    cases hk : Lib.atoiAll T with
    | ok k => exact (right_a neg M T hM hM0 hl hn k hk w hg).mono fun _ _ h => no hb h
    | range => exact (right_b neg M T hM hM0 hl hn (fun k h => by rw [hk] at h; cases h) w hg).mono fun _ _ h => no hb h
    | _ => exact (right_b neg M T hM hM0 hl hn (fun k h => by rw [hk] at h; cases h) w hg).mono fun _ _ h => no hb h
  | ok n =>
    cases hk : Lib.atoiAll T with
    | range => exact (right_c neg M T hM hM0 hl n hn (fun k h => by rw [hk] at h; cases h) w hg).mono fun _ _ h => no (bad fun n k _ h1 => by rw [hk] at h1; cases h1) h
    | ok k =>
      by_cases k1 : k < -2000
      · exact (right_d neg M T hM hM0 hl n hn k hk k1 w hg).mono fun _ _ h => no (bad fun n' k' _ h1 h2 _ => by rw [hk] at h1; cases h1; omega) h
      · by_cases k2 : 2000 < k
        · exact (right_e neg M T hM hM0 hl n hn k hk k2 w hg).mono fun _ _ h => no (bad fun n' k' _ h1 _ h2 => by rw [hk] at h1; cases h1; omega) h
        · refine (right_tok neg M T hM hM0 hl n k hn hk (by omega) (by omega) w hg).mono fun e w' ⟨h1, h2⟩ => ⟨_, _, h1, h2, ?_, fun h => of_decide_eq_true h, fun h hx => ?_⟩
          · exact wd_lt _ (Nat.lt_of_le_of_lt (by rw [joinN_RN (by have := pu16_lt _ _ _ (by omega) hn; omega)]; exact RN_le _ _) (by decide))
          · exact of_decide_eq_false h (right_join hM hn hk hx)
    | _ => exact (right_c neg M T hM hM0 hl n hn (fun k h => by rw [hk] at h; cases h) w hg).mono fun _ _ h => no (bad fun n k _ h1 => by rw [hk] at h1; cases h1) h
  | _ => exact absurd hn (pu16_not M 0 hM)
@[go_sem] theorem ifrombits_call (n : Int) (w : World) : (callFunc 142 #[.int .u64 n]).run Tryz.prog w = .ok (.value (.float .f64 n.toNat)) w := by kernel_rfl
set_option maxRecDepth 100000 in
theorem cpl_nan (w : World) : Calls Tryz.prog 146 #[.string ⟨#[110, 97, 110]⟩, .string ⟨#[110, 97, 110]⟩] w fun e w' => e = .returned (.int .i64 3) ∧ w' = w := by
  go_enter Tryz.func146, Tryz.ntmps146
  go_wp2
  go_loop [6, 7] (fun i _ => ∃ k : Nat, k ≤ 3 ∧ i = .int .i64 (k : Int)) (fun i _ => 3 - (intOf i).toNat)
  case atStart => exact ⟨0, by omega, rfl⟩
  case round =>
    obtain ⟨k, hk, rfl⟩ := hrel
    have hk' : k = 0 ∨ k = 1 ∨ k = 2 ∨ k = 3 := by omega
    rcases hk' with rfl | rfl | rfl | rfl
    · go_wp2
      exact ⟨⟨1, by omega, rfl⟩, by simp [intOf]⟩
    · go_wp2
      exact ⟨⟨2, by omega, rfl⟩, by simp [intOf]⟩
    · go_wp2
      exact ⟨⟨3, by omega, rfl⟩, by simp [intOf]⟩
    · go_wp2
      go_ret
      exact ⟨rfl, rfl⟩
set_option maxRecDepth 100000 in
theorem cpl_inf (w : World) : Calls Tryz.prog 146 #[.string ⟨#[105, 110, 102]⟩, .string ⟨#[105, 110, 102, 105, 110, 105, 116, 121]⟩] w fun e w' => e = .returned (.int .i64 3) ∧ w' = w := by
  go_enter Tryz.func146, Tryz.ntmps146
  go_wp2
  go_loop [6, 7] (fun i _ => ∃ k : Nat, k ≤ 3 ∧ i = .int .i64 (k : Int)) (fun i _ => 3 - (intOf i).toNat)
  case atStart => exact ⟨0, by omega, rfl⟩
  case round =>
    obtain ⟨k, hk, rfl⟩ := hrel
    have hk' : k = 0 ∨ k = 1 ∨ k = 2 ∨ k = 3 := by omega
    rcases hk' with rfl | rfl | rfl | rfl
    · go_wp2
      exact ⟨⟨1, by omega, rfl⟩, by simp [intOf]⟩
    · go_wp2
      exact ⟨⟨2, by omega, rfl⟩, by simp [intOf]⟩
    · go_wp2
      exact ⟨⟨3, by omega, rfl⟩, by simp [intOf]⟩
    · go_wp2
      go_ret
      exact ⟨rfl, rfl⟩
set_option maxRecDepth 100000 in
theorem pf_nan (w : World) : Calls Tryz.prog 71 #[.string ⟨#[110, 97, 110]⟩, .int .i64 64] w fun e w' => e = .returned (.tuple #[.float .f64 9221120237041090561, .nilIface]) ∧ w' = w := by
  go_enter Tryz.func71, Tryz.ntmps71
  go_wp2_with (first | (go_at_call 146; refine (cpl_nan _).mono ?_; rintro e w1 ⟨rfl, rfl⟩) | go_in)
  repeat (go_ret3; (try simp only []); go_wp2_with go_in)
  go_ret2
  exact ⟨rfl, rfl⟩
set_option maxRecDepth 100000 in
theorem pf_inf (w : World) : Calls Tryz.prog 71 #[.string ⟨#[105, 110, 102]⟩, .int .i64 64] w fun e w' => e = .returned (.tuple #[.float .f64 9218868437227405312, .nilIface]) ∧ w' = w := by
  go_enter Tryz.func71, Tryz.ntmps71
  go_wp2_with (first | (go_at_call 146; refine (cpl_inf _).mono ?_; rintro e w1 ⟨rfl, rfl⟩) | go_in)
  repeat (go_ret3; (try simp only []); go_wp2_with go_in)
  go_ret2
  exact ⟨rfl, rfl⟩
set_option maxRecDepth 100000 in
theorem pf_ninf (w : World) : Calls Tryz.prog 71 #[.string ⟨#[45, 105, 110, 102]⟩, .int .i64 64] w fun e w' => e = .returned (.tuple #[.float .f64 18442240474082181120, .nilIface]) ∧ w' = w := by
  have hx : (⟨#[45, 105, 110, 102]⟩ : ByteArray).extract 1 4 = ⟨#[105, 110, 102]⟩ := by decide
  go_enter Tryz.func71, Tryz.ntmps71
  go_wp2_with (first | (go_at_call 146; refine (cpl_inf _).mono ?_; rintro e w1 ⟨rfl, rfl⟩) | go_in)
  repeat (go_ret3; (try simp only []); go_wp2_with go_in)
  go_ret2
  exact ⟨rfl, rfl⟩
theorem right_n (w : World) : Calls Tryz.prog 62 #[.string (str [110, 97, 110])] w (RtP [110, 97, 110] w) := by
  refine Calls.mono (R := fun e w' => e = .returned (.tuple #[.float .f64 9221120237041090561, .bool true]) ∧ w' = w) ?_ (fun e w' ⟨h1, h2⟩ => ⟨_, _, h1, h2 ▸ But.refl _ _, by decide, fun _ => by decide +kernel, fun h => by cases h⟩)
  show Calls Tryz.prog 62 #[.string ⟨#[110, 97, 110]⟩] w _
  go_enter Tryz.func62, Tryz.ntmps62
  go_wp2_with (go_at_call 71; refine (pf_nan _).mono ?_; rintro e w1 ⟨rfl, rfl⟩)
  go_ret2
  exact ⟨rfl, rfl⟩
theorem right_i (w : World) : Calls Tryz.prog 62 #[.string (str [105, 110, 102])] w (RtP [105, 110, 102] w) := by
  refine Calls.mono (R := fun e w' => e = .returned (.tuple #[.float .f64 9218868437227405312, .bool true]) ∧ w' = w) ?_ (fun e w' ⟨h1, h2⟩ => ⟨_, _, h1, h2 ▸ But.refl _ _, by decide, fun _ => by decide +kernel, fun h => by cases h⟩)
  show Calls Tryz.prog 62 #[.string ⟨#[105, 110, 102]⟩] w _
  go_enter Tryz.func62, Tryz.ntmps62
  go_wp2_with (go_at_call 71; refine (pf_inf _).mono ?_; rintro e w1 ⟨rfl, rfl⟩)
  go_ret2
  exact ⟨rfl, rfl⟩
theorem right_m (w : World) : Calls Tryz.prog 62 #[.string (str [45, 105, 110, 102])] w (RtP [45, 105, 110, 102] w) := by
  refine Calls.mono (R := fun e w' => e = .returned (.tuple #[.float .f64 18442240474082181120, .bool true]) ∧ w' = w) ?_ (fun e w' ⟨h1, h2⟩ => ⟨_, _, h1, h2 ▸ But.refl _ _, by decide, fun _ => by decide +kernel, fun h => by cases h⟩)
  show Calls Tryz.prog 62 #[.string ⟨#[45, 105, 110, 102]⟩] w _
  go_enter Tryz.func62, Tryz.ntmps62
  go_wp2_with (go_at_call 71; refine (pf_ninf _).mono ?_; rintro e w1 ⟨rfl, rfl⟩)
  go_ret2
  exact ⟨rfl, rfl⟩
end Go.Proofs.YtnghppgpdeghfaaGreatDoor
