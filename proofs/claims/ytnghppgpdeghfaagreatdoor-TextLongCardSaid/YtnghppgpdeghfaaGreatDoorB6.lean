/- The reference's value. -/
import Derived.Test.YtnghppgpdeghfaaGreatDoorB5
import Derived.Test.YtnghppgpdeghfaaGreatDoorB3
namespace Go.Proofs.YtnghppgpdeghfaaGreatDoor
open Go.RowKit Go.Proofs.YtnghppgpdeghfaaGreatDoor.Fl Go.Proofs.YtnghppgpdeghfaaGreatDoor.Pt Go.Proofs.YtnghppgpdeghfaaGreatDoor.Tx

theorem seq_dec (X T : List UInt8) (S : ByteArray) (h : S.data.toList = T) : ((str X).toList == S.toList) = decide (X = T) := by
  have hS : S = str T := ByteArray.ext (by rw [← h]; simp [str])
  rw [hS, toList_str, toList_str]
  by_cases e : X = T
  · simp [e]
  · simp [e]
theorem hexV_lt0 : ∀ (l : List UInt8) (a : Nat), (∀ c ∈ l, isH c = true) → hexV a l < (a + 1) * 16 ^ l.length
  | [], a, _ => by show a < (a + 1) * 16 ^ 0; rw [Nat.pow_zero, Nat.mul_one]; exact Nat.lt_succ_self a
  | c :: l, a, h => by
    have h1 := hexV_lt0 l (16 * a + hv c) fun d hd => h d (by simp [hd])
    have h2 := hv_lt (h c (by simp))
    show hexV (16 * a + hv c) l < _
    refine Nat.lt_of_lt_of_le h1 ?_
    rw [List.length_cons, Nat.pow_succ, Nat.mul_comm (16 ^ l.length) 16, ← Nat.mul_assoc]
    exact Nat.mul_le_mul_right _ (by omega)
theorem hexV_lt (l : List UInt8) (h : ∀ c ∈ l, isH c = true) (hl : l.length ≤ 14) : hexV 0 l < 72057594037927936 := by
  have h1 := hexV_lt0 l 0 h
  rw [Nat.zero_add, Nat.one_mul] at h1
  exact Nat.lt_of_lt_of_le h1 (Nat.le_trans (Nat.pow_le_pow_right (by decide) hl) (by decide))
theorem decV_lt0 : ∀ (l : List UInt8) (a : Nat), (∀ c ∈ l, isD c = true) → decV a l < (a + 1) * 10 ^ l.length
  | [], a, _ => by show a < (a + 1) * 10 ^ 0; rw [Nat.pow_zero, Nat.mul_one]; exact Nat.lt_succ_self a
  | c :: l, a, h => by
    have h1 := decV_lt0 l (10 * a + (c.toNat - 48)) fun d hd => h d (by simp [hd])
    have h2 := h c (by simp)
    unfold isD at h2
    simp at h2
    show decV (10 * a + (c.toNat - 48)) l < _
    refine Nat.lt_of_lt_of_le h1 ?_
    rw [List.length_cons, Nat.pow_succ, Nat.mul_comm (10 ^ l.length) 10, ← Nat.mul_assoc]
    exact Nat.mul_le_mul_right _ (by omega)
theorem decV_lt (l : List UInt8) (h : ∀ c ∈ l, isD c = true) (hl : l.length ≤ 4) : decV 0 l < 10000 := by
  have h1 := decV_lt0 l 0 h
  rw [Nat.zero_add, Nat.one_mul] at h1
  exact Nat.lt_of_lt_of_le h1 (Nat.le_trans (Nat.pow_le_pow_right (by decide) hl) (by decide))
theorem take_snoc {L : List UInt8} {k : Nat} {c : UInt8} (hc : L[k]? = some c) : L.take (k + 1) = L.take k ++ [c] := by
  obtain ⟨h, e⟩ := List.getElem?_eq_some_iff.1 hc
  rw [List.take_succ_eq_append_getElem h, e]
theorem hex_step {M : List UInt8} {k : Nat} {c : UInt8} (hM : ∀ c ∈ M, isH c = true) (hl : M.length ≤ 14) (hlt : k < M.length) (hc : M[k]? = some c) :
    isH c = true ∧ hexV 0 (M.take (k + 1)) = 16 * hexV 0 (M.take k) + hv c ∧ hexV 0 (M.take k) < 4503599627370496 ∧ hv c < 16 := by
  have h1 : isH c = true := hM c (List.mem_of_getElem? hc)
  refine ⟨h1, by rw [take_snoc hc, hexV_snoc], ?_, hv_lt h1⟩
  have h2 := hexV_lt0 (M.take k) 0 fun d hd => hM d (List.mem_of_mem_take hd)
  rw [List.length_take, Nat.zero_add, Nat.one_mul] at h2
  exact Nat.lt_of_lt_of_le h2 (Nat.le_trans (Nat.pow_le_pow_right (n := 16) (by decide) (show min k M.length ≤ 13 by omega)) (by decide))
theorem dec_step {E : List UInt8} {k : Nat} {c : UInt8} (hE : ∀ c ∈ E, isD c = true) (hl : E.length ≤ 4) (hlt : k < E.length) (hc : E[k]? = some c) :
    48 ≤ c.toNat ∧ c.toNat ≤ 57 ∧ decV 0 (E.take (k + 1)) = 10 * decV 0 (E.take k) + (c.toNat - 48) ∧ decV 0 (E.take k) < 10000 := by
  have h1 : isD c = true := hE c (List.mem_of_getElem? hc)
  unfold isD at h1
  simp at h1
  refine ⟨h1.1, h1.2, by rw [take_snoc hc, decV_snoc], ?_⟩
  exact decV_lt _ (fun d hd => hE d (List.mem_of_mem_take hd)) (by rw [List.length_take]; omega)
set_option linter.unusedSimpArgs false in
set_option maxRecDepth 100000 in
set_option maxHeartbeats 4000000 in
theorem value_pa (M E : List UInt8) (hM : ∀ c ∈ M, isH c = true) (hE : ∀ c ∈ E, isD c = true) (hl1 : M.length ≤ 14) (hl2 : E.length ≤ 4) (P : Nat → Prop) (hL : ∀ W, Calls Tryz.prog 100 #[.float .f64 (RN (hexV 0 M) 1074), .int .i64 ((decV 0 E : Int))] W fun r w' => (∃ z, r = .returned (.float .f64 z) ∧ z < 9223372036854775808 ∧ P z) ∧ But [] W w') (W : World) :
    Calls Tryz.prog 80 #[.bool false, .string (str M), .bool false, .string (str E)] W fun r w' => (∃ z, r = .returned (.tuple #[.float .f64 (z), .bool (decide (fl (z) = ([48, 120] ++ (M ++ 112 :: E))))]) ∧ z < 9223372036854775808 ∧ P z) ∧ But [] W w' := by
  have q1 : decide ((14 : Int) < (M.length : Int)) = false := decide_eq_false (by omega)
  have q2 : decide ((4 : Int) < (E.length : Int)) = false := decide_eq_false (by omega)
  have s1 : (str M).size = M.length := rfl
  have s2 : (str E).size = E.length := rfl
  obtain ⟨nn, hnn⟩ : ∃ nn, nn = hexV 0 M := ⟨_, rfl⟩
  obtain ⟨pp, hpp⟩ : ∃ pp, pp = decV 0 E := ⟨_, rfl⟩
  rw [← hnn, ← of_int, ← hpp] at hL
  have hn2 := hexV_lt M hM hl1
  have hp2 := decV_lt E hE hl2
  rw [← hnn] at hn2
  rw [← hpp] at hp2
  have HL := Lib.hid hL

  have HNN := Lib.hid hnn
  have HPP := Lib.hid hpp
  clear hL hnn hpp
  go_enter Tryz.func80, Tryz.ntmps80
  go_wp2_with fail
  go_loopw [10, 12] (fun n i wr => ∃ k : Nat, k ≤ M.length ∧ i = .int .i64 (k : Int) ∧ n = .int .u64 (hexV 0 (M.take k) : Int) ∧ But [] W wr) (fun _ i _ => M.length - (intOf i).toNat)
  case atStart => exact ⟨0, Nat.zero_le _, rfl, rfl, But.refl _ _⟩
  case round =>
    obtain ⟨k, hk, rfl, rfl, hb⟩ := hrel
    by_cases hlt : k < M.length
    · have t1 : decide ((k : Int) < (M.length : Int)) = true := decide_eq_true (Int.ofNat_lt.2 hlt)
      obtain ⟨c, hc⟩ : ∃ c, M[k]? = some c := ⟨_, List.getElem?_eq_getElem hlt⟩
      have hget : ∀ hp, (str M)[k]'hp = c := fun hp => by
        have := List.getElem?_eq_getElem hlt
        rw [hc] at this
        exact (Option.some.inj this).symm
      obtain ⟨hH, hV, hB, hV16⟩ := hex_step hM hl1 hlt hc
      have HV := Lib.hid hV
      generalize hexV 0 (M.take k) = a at *
      clear hV hc
      go_wp2_with (go_at_call 99; refine (rhexv c hH _).mono ?_; rintro e w1 ⟨rfl, hw1⟩; rw [hw1]; clear hw1 w1)
      exact ⟨⟨k + 1, by omega, by go_num, congrArg (Value.int .u64) (by rw [HV.out]; omega), hb⟩, by simp [intOf]; omega⟩
    · obtain rfl : k = M.length := Nat.le_antisymm hk (Nat.le_of_not_lt hlt)
      have t1 : decide ((M.length : Int) < (M.length : Int)) = false := decide_eq_false (Int.lt_irrefl _)
      rw [List.take_length, ← HNN.out]
      go_wp2_with fail
      go_loopw [11, 13] (fun n i wr => ∃ k : Nat, k ≤ E.length ∧ i = .int .i64 (k : Int) ∧ n = .int .i64 (decV 0 (E.take k) : Int) ∧ But [] W wr) (fun _ i _ => E.length - (intOf i).toNat)
      case atStart => exact ⟨0, Nat.zero_le _, rfl, rfl, hb⟩
      case round =>
        obtain ⟨k, hk, rfl, rfl, hb⟩ := hrel
        by_cases hlt : k < E.length
        · have t2 : decide ((k : Int) < (E.length : Int)) = true := decide_eq_true (Int.ofNat_lt.2 hlt)
          obtain ⟨c, hc⟩ : ∃ c, E[k]? = some c := ⟨_, List.getElem?_eq_getElem hlt⟩
          have hget : ∀ hp, (str E)[k]'hp = c := fun hp => by
            have := List.getElem?_eq_getElem hlt
            rw [hc] at this
            exact (Option.some.inj this).symm
          obtain ⟨hB1, hB2, hV, hB⟩ := dec_step hE hl2 hlt hc
          have HV := Lib.hid hV
          generalize decV 0 (E.take k) = a at *
          clear hV hc
          go_wp2_with fail
          exact ⟨⟨k + 1, by omega, by go_num, congrArg (Value.int .i64) (by rw [HV.out]; omega), hb⟩, by simp [intOf]; omega⟩
        · obtain rfl : k = E.length := Nat.le_antisymm hk (Nat.le_of_not_lt hlt)
          have t2 : decide ((E.length : Int) < (E.length : Int)) = false := decide_eq_false (Int.lt_irrefl _)
          rw [List.take_length, ← HPP.out]
          go_wp2_with (first | (go_at_call 100; refine (HL.out _).mono ?_; rintro e2 w1 ⟨⟨z, rfl, hz, hPz⟩, hb1⟩) | (go_at_call 102; refine (reffloat_any _ (by omega) _).mono ?_; rintro e2 w2 ⟨rfl, hb2⟩))
          all_goals first | (exfalso; omega) | skip
          refine bodyPost_ret (v := .tuple #[.float .f64 (z), .bool ((str (fl (z))).toList == ({ data := #[48, 120] } ++ str M ++ { data := #[112] } ++ str E).toList)]) ((results_tmp2 (fn := Tryz.f80) rfl _ _ _).trans rfl) rfl ⟨⟨z, congrArg (fun b => Ending.returned (.tuple #[.float .f64 (z), .bool b])) (seq_dec _ _ _ (by simp [str])), hz, hPz⟩, (hb.trans hb1).trans hb2⟩
set_option linter.unusedSimpArgs false in
set_option maxRecDepth 100000 in
set_option maxHeartbeats 4000000 in
theorem value_pb (M E : List UInt8) (hM : ∀ c ∈ M, isH c = true) (hE : ∀ c ∈ E, isD c = true) (hl1 : M.length ≤ 14) (hl2 : E.length ≤ 4) (P : Nat → Prop) (hL : ∀ W, Calls Tryz.prog 100 #[.float .f64 (RN (hexV 0 M) 1074), .int .i64 (-(decV 0 E : Int))] W fun r w' => (∃ z, r = .returned (.float .f64 z) ∧ z < 9223372036854775808 ∧ P z) ∧ But [] W w') (W : World) :
    Calls Tryz.prog 80 #[.bool false, .string (str M), .bool true, .string (str E)] W fun r w' => (∃ z, r = .returned (.tuple #[.float .f64 (z), .bool (decide (fl (z) = ([48, 120] ++ (M ++ 112 :: 45 :: E))))]) ∧ z < 9223372036854775808 ∧ P z) ∧ But [] W w' := by
  have q1 : decide ((14 : Int) < (M.length : Int)) = false := decide_eq_false (by omega)
  have q2 : decide ((4 : Int) < (E.length : Int)) = false := decide_eq_false (by omega)
  have s1 : (str M).size = M.length := rfl
  have s2 : (str E).size = E.length := rfl
  obtain ⟨nn, hnn⟩ : ∃ nn, nn = hexV 0 M := ⟨_, rfl⟩
  obtain ⟨pp, hpp⟩ : ∃ pp, pp = decV 0 E := ⟨_, rfl⟩
  rw [← hnn, ← of_int, ← hpp] at hL
  have hn2 := hexV_lt M hM hl1
  have hp2 := decV_lt E hE hl2
  rw [← hnn] at hn2
  rw [← hpp] at hp2
  have HL := Lib.hid hL

  have HNN := Lib.hid hnn
  have HPP := Lib.hid hpp
  clear hL hnn hpp
  go_enter Tryz.func80, Tryz.ntmps80
  go_wp2_with fail
  go_loopw [10, 12] (fun n i wr => ∃ k : Nat, k ≤ M.length ∧ i = .int .i64 (k : Int) ∧ n = .int .u64 (hexV 0 (M.take k) : Int) ∧ But [] W wr) (fun _ i _ => M.length - (intOf i).toNat)
  case atStart => exact ⟨0, Nat.zero_le _, rfl, rfl, But.refl _ _⟩
  case round =>
    obtain ⟨k, hk, rfl, rfl, hb⟩ := hrel
    by_cases hlt : k < M.length
    · have t1 : decide ((k : Int) < (M.length : Int)) = true := decide_eq_true (Int.ofNat_lt.2 hlt)
      obtain ⟨c, hc⟩ : ∃ c, M[k]? = some c := ⟨_, List.getElem?_eq_getElem hlt⟩
      have hget : ∀ hp, (str M)[k]'hp = c := fun hp => by
        have := List.getElem?_eq_getElem hlt
        rw [hc] at this
        exact (Option.some.inj this).symm
      obtain ⟨hH, hV, hB, hV16⟩ := hex_step hM hl1 hlt hc
      have HV := Lib.hid hV
      generalize hexV 0 (M.take k) = a at *
      clear hV hc
      go_wp2_with (go_at_call 99; refine (rhexv c hH _).mono ?_; rintro e w1 ⟨rfl, hw1⟩; rw [hw1]; clear hw1 w1)
      exact ⟨⟨k + 1, by omega, by go_num, congrArg (Value.int .u64) (by rw [HV.out]; omega), hb⟩, by simp [intOf]; omega⟩
    · obtain rfl : k = M.length := Nat.le_antisymm hk (Nat.le_of_not_lt hlt)
      have t1 : decide ((M.length : Int) < (M.length : Int)) = false := decide_eq_false (Int.lt_irrefl _)
      rw [List.take_length, ← HNN.out]
      go_wp2_with fail
      go_loopw [11, 13] (fun n i wr => ∃ k : Nat, k ≤ E.length ∧ i = .int .i64 (k : Int) ∧ n = .int .i64 (decV 0 (E.take k) : Int) ∧ But [] W wr) (fun _ i _ => E.length - (intOf i).toNat)
      case atStart => exact ⟨0, Nat.zero_le _, rfl, rfl, hb⟩
      case round =>
        obtain ⟨k, hk, rfl, rfl, hb⟩ := hrel
        by_cases hlt : k < E.length
        · have t2 : decide ((k : Int) < (E.length : Int)) = true := decide_eq_true (Int.ofNat_lt.2 hlt)
          obtain ⟨c, hc⟩ : ∃ c, E[k]? = some c := ⟨_, List.getElem?_eq_getElem hlt⟩
          have hget : ∀ hp, (str E)[k]'hp = c := fun hp => by
            have := List.getElem?_eq_getElem hlt
            rw [hc] at this
            exact (Option.some.inj this).symm
          obtain ⟨hB1, hB2, hV, hB⟩ := dec_step hE hl2 hlt hc
          have HV := Lib.hid hV
          generalize decV 0 (E.take k) = a at *
          clear hV hc
          go_wp2_with fail
          exact ⟨⟨k + 1, by omega, by go_num, congrArg (Value.int .i64) (by rw [HV.out]; omega), hb⟩, by simp [intOf]; omega⟩
        · obtain rfl : k = E.length := Nat.le_antisymm hk (Nat.le_of_not_lt hlt)
          have t2 : decide ((E.length : Int) < (E.length : Int)) = false := decide_eq_false (Int.lt_irrefl _)
          rw [List.take_length, ← HPP.out]
          go_wp2_with (first | (go_at_call 100; refine (HL.out _).mono ?_; rintro e2 w1 ⟨⟨z, rfl, hz, hPz⟩, hb1⟩) | (go_at_call 102; refine (reffloat_any _ (by omega) _).mono ?_; rintro e2 w2 ⟨rfl, hb2⟩))
          all_goals first | (exfalso; omega) | skip
          refine bodyPost_ret (v := .tuple #[.float .f64 (z), .bool ((str (fl (z))).toList == ({ data := #[48, 120] } ++ str M ++ { data := #[112, 45] } ++ str E).toList)]) ((results_tmp2 (fn := Tryz.f80) rfl _ _ _).trans rfl) rfl ⟨⟨z, congrArg (fun b => Ending.returned (.tuple #[.float .f64 (z), .bool b])) (seq_dec _ _ _ (by simp [str])), hz, hPz⟩, (hb.trans hb1).trans hb2⟩
set_option linter.unusedSimpArgs false in
set_option maxRecDepth 100000 in
set_option maxHeartbeats 4000000 in
theorem value_na (M E : List UInt8) (hM : ∀ c ∈ M, isH c = true) (hE : ∀ c ∈ E, isD c = true) (hl1 : M.length ≤ 14) (hl2 : E.length ≤ 4) (P : Nat → Prop) (hL : ∀ W, Calls Tryz.prog 100 #[.float .f64 (RN (hexV 0 M) 1074), .int .i64 ((decV 0 E : Int))] W fun r w' => (∃ z, r = .returned (.float .f64 z) ∧ z < 9223372036854775808 ∧ P z) ∧ But [] W w') (W : World) :
    Calls Tryz.prog 80 #[.bool true, .string (str M), .bool false, .string (str E)] W fun r w' => (∃ z, r = .returned (.tuple #[.float .f64 (z + 9223372036854775808), .bool (decide (fl (z + 9223372036854775808) = 45 :: ([48, 120] ++ (M ++ 112 :: E))))]) ∧ z < 9223372036854775808 ∧ P z) ∧ But [] W w' := by
  have q1 : decide ((14 : Int) < (M.length : Int)) = false := decide_eq_false (by omega)
  have q2 : decide ((4 : Int) < (E.length : Int)) = false := decide_eq_false (by omega)
  have s1 : (str M).size = M.length := rfl
  have s2 : (str E).size = E.length := rfl
  obtain ⟨nn, hnn⟩ : ∃ nn, nn = hexV 0 M := ⟨_, rfl⟩
  obtain ⟨pp, hpp⟩ : ∃ pp, pp = decV 0 E := ⟨_, rfl⟩
  rw [← hnn, ← of_int, ← hpp] at hL
  have hn2 := hexV_lt M hM hl1
  have hp2 := decV_lt E hE hl2
  rw [← hnn] at hn2
  rw [← hpp] at hp2
  have HL := Lib.hid hL
  have HS := Lib.hid (show sgw 13830554455654793216 = 9223372036854775808 by decide)
  have HNN := Lib.hid hnn
  have HPP := Lib.hid hpp
  clear hL hnn hpp
  go_enter Tryz.func80, Tryz.ntmps80
  go_wp2_with fail
  go_loopw [10, 12] (fun n i wr => ∃ k : Nat, k ≤ M.length ∧ i = .int .i64 (k : Int) ∧ n = .int .u64 (hexV 0 (M.take k) : Int) ∧ But [] W wr) (fun _ i _ => M.length - (intOf i).toNat)
  case atStart => exact ⟨0, Nat.zero_le _, rfl, rfl, But.refl _ _⟩
  case round =>
    obtain ⟨k, hk, rfl, rfl, hb⟩ := hrel
    by_cases hlt : k < M.length
    · have t1 : decide ((k : Int) < (M.length : Int)) = true := decide_eq_true (Int.ofNat_lt.2 hlt)
      obtain ⟨c, hc⟩ : ∃ c, M[k]? = some c := ⟨_, List.getElem?_eq_getElem hlt⟩
      have hget : ∀ hp, (str M)[k]'hp = c := fun hp => by
        have := List.getElem?_eq_getElem hlt
        rw [hc] at this
        exact (Option.some.inj this).symm
      obtain ⟨hH, hV, hB, hV16⟩ := hex_step hM hl1 hlt hc
      have HV := Lib.hid hV
      generalize hexV 0 (M.take k) = a at *
      clear hV hc
      go_wp2_with (go_at_call 99; refine (rhexv c hH _).mono ?_; rintro e w1 ⟨rfl, hw1⟩; rw [hw1]; clear hw1 w1)
      exact ⟨⟨k + 1, by omega, by go_num, congrArg (Value.int .u64) (by rw [HV.out]; omega), hb⟩, by simp [intOf]; omega⟩
    · obtain rfl : k = M.length := Nat.le_antisymm hk (Nat.le_of_not_lt hlt)
      have t1 : decide ((M.length : Int) < (M.length : Int)) = false := decide_eq_false (Int.lt_irrefl _)
      rw [List.take_length, ← HNN.out]
      go_wp2_with fail
      go_loopw [11, 13] (fun n i wr => ∃ k : Nat, k ≤ E.length ∧ i = .int .i64 (k : Int) ∧ n = .int .i64 (decV 0 (E.take k) : Int) ∧ But [] W wr) (fun _ i _ => E.length - (intOf i).toNat)
      case atStart => exact ⟨0, Nat.zero_le _, rfl, rfl, hb⟩
      case round =>
        obtain ⟨k, hk, rfl, rfl, hb⟩ := hrel
        by_cases hlt : k < E.length
        · have t2 : decide ((k : Int) < (E.length : Int)) = true := decide_eq_true (Int.ofNat_lt.2 hlt)
          obtain ⟨c, hc⟩ : ∃ c, E[k]? = some c := ⟨_, List.getElem?_eq_getElem hlt⟩
          have hget : ∀ hp, (str E)[k]'hp = c := fun hp => by
            have := List.getElem?_eq_getElem hlt
            rw [hc] at this
            exact (Option.some.inj this).symm
          obtain ⟨hB1, hB2, hV, hB⟩ := dec_step hE hl2 hlt hc
          have HV := Lib.hid hV
          generalize decV 0 (E.take k) = a at *
          clear hV hc
          go_wp2_with fail
          exact ⟨⟨k + 1, by omega, by go_num, congrArg (Value.int .i64) (by rw [HV.out]; omega), hb⟩, by simp [intOf]; omega⟩
        · obtain rfl : k = E.length := Nat.le_antisymm hk (Nat.le_of_not_lt hlt)
          have t2 : decide ((E.length : Int) < (E.length : Int)) = false := decide_eq_false (Int.lt_irrefl _)
          rw [List.take_length, ← HPP.out]
          go_wp2_with (first | (go_at_call 100; refine (HL.out _).mono ?_; rintro e2 w1 ⟨⟨z, rfl, hz, hPz⟩, hb1⟩) | (go_at_call 101; refine (copysign_any z 13830554455654793216 hz (by omega) _).mono ?_; rintro e2 w' ⟨rfl, hw2⟩; rw [← hw2, HS.out]; clear hw2 w') | (go_at_call 102; refine (reffloat_any _ (by omega) _).mono ?_; rintro e2 w2 ⟨rfl, hb2⟩))
          all_goals first | (exfalso; omega) | skip
          refine bodyPost_ret (v := .tuple #[.float .f64 (z + 9223372036854775808), .bool ((str (fl (z + 9223372036854775808))).toList == ({ data := #[45] } ++ ({ data := #[48, 120] } ++ str M ++ { data := #[112] } ++ str E)).toList)]) ((results_tmp2 (fn := Tryz.f80) rfl _ _ _).trans rfl) rfl ⟨⟨z, congrArg (fun b => Ending.returned (.tuple #[.float .f64 (z + 9223372036854775808), .bool b])) (seq_dec _ _ _ (by simp [str])), hz, hPz⟩, (hb.trans hb1).trans hb2⟩
set_option linter.unusedSimpArgs false in
set_option maxRecDepth 100000 in
set_option maxHeartbeats 4000000 in
theorem value_nb (M E : List UInt8) (hM : ∀ c ∈ M, isH c = true) (hE : ∀ c ∈ E, isD c = true) (hl1 : M.length ≤ 14) (hl2 : E.length ≤ 4) (P : Nat → Prop) (hL : ∀ W, Calls Tryz.prog 100 #[.float .f64 (RN (hexV 0 M) 1074), .int .i64 (-(decV 0 E : Int))] W fun r w' => (∃ z, r = .returned (.float .f64 z) ∧ z < 9223372036854775808 ∧ P z) ∧ But [] W w') (W : World) :
    Calls Tryz.prog 80 #[.bool true, .string (str M), .bool true, .string (str E)] W fun r w' => (∃ z, r = .returned (.tuple #[.float .f64 (z + 9223372036854775808), .bool (decide (fl (z + 9223372036854775808) = 45 :: ([48, 120] ++ (M ++ 112 :: 45 :: E))))]) ∧ z < 9223372036854775808 ∧ P z) ∧ But [] W w' := by
  have q1 : decide ((14 : Int) < (M.length : Int)) = false := decide_eq_false (by omega)
  have q2 : decide ((4 : Int) < (E.length : Int)) = false := decide_eq_false (by omega)
  have s1 : (str M).size = M.length := rfl
  have s2 : (str E).size = E.length := rfl
  obtain ⟨nn, hnn⟩ : ∃ nn, nn = hexV 0 M := ⟨_, rfl⟩
  obtain ⟨pp, hpp⟩ : ∃ pp, pp = decV 0 E := ⟨_, rfl⟩
  rw [← hnn, ← of_int, ← hpp] at hL
  have hn2 := hexV_lt M hM hl1
  have hp2 := decV_lt E hE hl2
  rw [← hnn] at hn2
  rw [← hpp] at hp2
  have HL := Lib.hid hL
  have HS := Lib.hid (show sgw 13830554455654793216 = 9223372036854775808 by decide)
  have HNN := Lib.hid hnn
  have HPP := Lib.hid hpp
  clear hL hnn hpp
  go_enter Tryz.func80, Tryz.ntmps80
  go_wp2_with fail
  go_loopw [10, 12] (fun n i wr => ∃ k : Nat, k ≤ M.length ∧ i = .int .i64 (k : Int) ∧ n = .int .u64 (hexV 0 (M.take k) : Int) ∧ But [] W wr) (fun _ i _ => M.length - (intOf i).toNat)
  case atStart => exact ⟨0, Nat.zero_le _, rfl, rfl, But.refl _ _⟩
  case round =>
    obtain ⟨k, hk, rfl, rfl, hb⟩ := hrel
    by_cases hlt : k < M.length
    · have t1 : decide ((k : Int) < (M.length : Int)) = true := decide_eq_true (Int.ofNat_lt.2 hlt)
      obtain ⟨c, hc⟩ : ∃ c, M[k]? = some c := ⟨_, List.getElem?_eq_getElem hlt⟩
      have hget : ∀ hp, (str M)[k]'hp = c := fun hp => by
        have := List.getElem?_eq_getElem hlt
        rw [hc] at this
        exact (Option.some.inj this).symm
      obtain ⟨hH, hV, hB, hV16⟩ := hex_step hM hl1 hlt hc
      have HV := Lib.hid hV
      generalize hexV 0 (M.take k) = a at *
      clear hV hc
      go_wp2_with (go_at_call 99; refine (rhexv c hH _).mono ?_; rintro e w1 ⟨rfl, hw1⟩; rw [hw1]; clear hw1 w1)
      exact ⟨⟨k + 1, by omega, by go_num, congrArg (Value.int .u64) (by rw [HV.out]; omega), hb⟩, by simp [intOf]; omega⟩
    · obtain rfl : k = M.length := Nat.le_antisymm hk (Nat.le_of_not_lt hlt)
      have t1 : decide ((M.length : Int) < (M.length : Int)) = false := decide_eq_false (Int.lt_irrefl _)
      rw [List.take_length, ← HNN.out]
      go_wp2_with fail
      go_loopw [11, 13] (fun n i wr => ∃ k : Nat, k ≤ E.length ∧ i = .int .i64 (k : Int) ∧ n = .int .i64 (decV 0 (E.take k) : Int) ∧ But [] W wr) (fun _ i _ => E.length - (intOf i).toNat)
      case atStart => exact ⟨0, Nat.zero_le _, rfl, rfl, hb⟩
      case round =>
        obtain ⟨k, hk, rfl, rfl, hb⟩ := hrel
        by_cases hlt : k < E.length
        · have t2 : decide ((k : Int) < (E.length : Int)) = true := decide_eq_true (Int.ofNat_lt.2 hlt)
          obtain ⟨c, hc⟩ : ∃ c, E[k]? = some c := ⟨_, List.getElem?_eq_getElem hlt⟩
          have hget : ∀ hp, (str E)[k]'hp = c := fun hp => by
            have := List.getElem?_eq_getElem hlt
            rw [hc] at this
            exact (Option.some.inj this).symm
          obtain ⟨hB1, hB2, hV, hB⟩ := dec_step hE hl2 hlt hc
          have HV := Lib.hid hV
          generalize decV 0 (E.take k) = a at *
          clear hV hc
          go_wp2_with fail
          exact ⟨⟨k + 1, by omega, by go_num, congrArg (Value.int .i64) (by rw [HV.out]; omega), hb⟩, by simp [intOf]; omega⟩
        · obtain rfl : k = E.length := Nat.le_antisymm hk (Nat.le_of_not_lt hlt)
          have t2 : decide ((E.length : Int) < (E.length : Int)) = false := decide_eq_false (Int.lt_irrefl _)
          rw [List.take_length, ← HPP.out]
          go_wp2_with (first | (go_at_call 100; refine (HL.out _).mono ?_; rintro e2 w1 ⟨⟨z, rfl, hz, hPz⟩, hb1⟩) | (go_at_call 101; refine (copysign_any z 13830554455654793216 hz (by omega) _).mono ?_; rintro e2 w' ⟨rfl, hw2⟩; rw [← hw2, HS.out]; clear hw2 w') | (go_at_call 102; refine (reffloat_any _ (by omega) _).mono ?_; rintro e2 w2 ⟨rfl, hb2⟩))
          all_goals first | (exfalso; omega) | skip
          refine bodyPost_ret (v := .tuple #[.float .f64 (z + 9223372036854775808), .bool ((str (fl (z + 9223372036854775808))).toList == ({ data := #[45] } ++ ({ data := #[48, 120] } ++ str M ++ { data := #[112, 45] } ++ str E)).toList)]) ((results_tmp2 (fn := Tryz.f80) rfl _ _ _).trans rfl) rfl ⟨⟨z, congrArg (fun b => Ending.returned (.tuple #[.float .f64 (z + 9223372036854775808), .bool b])) (seq_dec _ _ _ (by simp [str])), hz, hPz⟩, (hb.trans hb1).trans hb2⟩

end Go.Proofs.YtnghppgpdeghfaaGreatDoor
