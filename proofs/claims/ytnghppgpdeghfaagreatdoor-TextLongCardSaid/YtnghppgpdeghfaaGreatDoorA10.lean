/- text.right: is a text a float's? -/
import Derived.Test.YtnghppgpdeghfaaGreatDoorA8
import Derived.Test.YtnghppgpdeghfaaGreatDoorA9
namespace Go.Proofs.YtnghppgpdeghfaaGreatDoor
open Go.RowKit Go.Proofs.YtnghppgpdeghfaaGreatDoor.Fl Go.Proofs.YtnghppgpdeghfaaGreatDoor.Pt Go.Proofs.YtnghppgpdeghfaaGreatDoor.Tx

theorem toList_str (l : List UInt8) : (str l).toList = l := by simp [str, ByteArray.toList_eq]
theorem beq_dec (a b : List UInt8) : (a == b) = decide (a = b) := by rw [Bool.eq_iff_iff]; simp
theorem ib_p : ∀ (M T : List UInt8), (112 : UInt8) ∉ M → Lib.indexByte (M ++ 112 :: T) 112 = (M.length : Int)
  | [], T, _ => by simp [Lib.indexByte]
  | c :: M, T, h => by
    have h1 : ¬ (c == 112) = true := fun h' => h (by rw [eq_of_beq h']; simp)
    have ih := ib_p M T (fun hm => h (by simp [hm]))
    show (if c == 112 then (0 : Int) else if Lib.indexByte (M ++ 112 :: T) 112 == -1 then -1 else Lib.indexByte (M ++ 112 :: T) 112 + 1) = _
    rw [if_neg h1, ih, if_neg (by simp <;> omega)]
    simp
theorem cut_p (M T : List UInt8) (h : (112 : UInt8) ∉ M) : Lib.cut (M ++ 112 :: T) [112] = (M, T, true) := by
  unfold Lib.cut
  rw [Lib.index_one, ib_p M T h, if_pos (by omega)]
  simp
theorem trim_p (neg : Bool) (M T : List UInt8) : Lib.trimPrefix (tok neg M T) [45] = [48, 120] ++ (M ++ 112 :: T) := by
  unfold Lib.trimPrefix Lib.hasPrefix tok
  cases neg <;> simp

set_option linter.unusedSimpArgs false in
set_option maxRecDepth 100000 in
set_option maxHeartbeats 2000000 in
theorem right_tok (neg : Bool) (M T : List UInt8) (hM : ∀ c ∈ M, isH c = true) (hM0 : M ≠ []) (hl : (tok neg M T).length ≤ 65536) (n : Nat) (k : Int) (hn : pu16 0 M = .ok n) (hk : Lib.atoiAll T = .ok k) (k1 : -2000 ≤ k) (k2 : k ≤ 2000) (w : World) (hg : Gl w) :
    Calls Tryz.prog 62 #[.string (str (tok neg M T))] w fun e w' => e = .returned (.tuple #[.float .f64 (wd neg (joinN n k)), .bool (decide (fl (wd neg (joinN n k)) = tok neg M T))]) ∧ But [] w w' := by
  obtain ⟨m5, hm5⟩ := hg.max
  have htl : (str (tok neg M T)).toList = tok neg M T := toList_str _
  have s1 : ((str (tok neg M T)).toList == [110, 97, 110]) = false := by rw [htl]; unfold tok; cases neg <;> simp
  have s2 : ((str (tok neg M T)).toList == [105, 110, 102]) = false := by rw [htl]; unfold tok; cases neg <;> simp
  have s3 : ((str (tok neg M T)).toList == [45, 105, 110, 102]) = false := by rw [htl]; unfold tok; cases neg <;> simp
  have htr : (⟨(Lib.trimPrefix (str (tok neg M T)).data.toList (⟨#[45]⟩ : ByteArray).data.toList).toArray⟩ : ByteArray) = str ([48, 120] ++ (M ++ 112 :: T)) := by
    unfold str
    simp only [List.toList_toArray]
    rw [trim_p]
  clear htl
  have hsz : (str (48 :: 120 :: (M ++ 112 :: T))).size = M.length + (T.length + 1) + 1 + 1 := by simp [str, ByteArray.size]
  have hex : (str (48 :: 120 :: (M ++ 112 :: T))).extract 2 (M.length + (T.length + 1) + 1 + 1) = str (M ++ 112 :: T) := by
    apply ByteArray.ext
    simp [str]
    exact List.take_of_length_le (by simp)
  have hlen : M.length + T.length + 3 ≤ 65536 := by unfold tok at hl; cases neg <;> simp at hl <;> omega
  have hct : ∀ (s : ByteArray), s = str (M ++ 112 :: T) → (Lib.cut s.data.toList (⟨#[112]⟩ : ByteArray).data.toList) = (M, T, true) := fun s hs => by
    rw [hs]
    unfold str
    simp only [List.toList_toArray]
    exact cut_p M T (no_p hM)
  go_enter Tryz.func62, Tryz.ntmps62
  go_wp2_with (go_at_call 73; refine (Tryz.strings_TrimPrefix _ _ _).mono ?_; rintro e w1 ⟨rfl, hw1⟩; rw [hw1, htr]; clear hw1 w1)
  go_wp2_with (go_at_call 72; refine (Tryz.strings_Cut _ _ m5 _ (by simp [str, ByteArray.size]; omega) hm5).mono ?_; rintro e w1 ⟨rfl, nq, rfl⟩; rw [hct _ rfl])
  have hbq : But [] w (w.drewN nq) := (But.refl _ _).drewN nq
  have hMs : (⟨M.toArray⟩ : ByteArray).size = M.length := by simp [ByteArray.size]
  have hTs : (⟨T.toArray⟩ : ByteArray).size = T.length := by simp [ByteArray.size]
  have hM1 : M.length ≠ 0 := fun h => hM0 (List.length_eq_zero_iff.1 h)
  have h0i : ∀ hp, (str (tok neg M T))[0]'hp = if neg then 45 else 48 := fun hp => by
    cases neg <;> rfl
  have htl := toList_str (tok neg M T)
  have hp0 : 0 < (str (tok neg M T)).size := by cases neg <;> simp [str, tok, ByteArray.size]
  cases neg
  all_goals
    go_wp2_with (first
      | (go_at_call 74; refine (pu_ok ⟨M.toArray⟩ (by rw [hMs]; exact hM1) (by rw [hMs]; omega) (by simpa using hM) n (by simpa using hn) _).mono ?_; rintro e w1 ⟨rfl, hb1⟩)
      | (go_at_call 75; refine (Tryz.strconv_Atoi_ok ⟨T.toArray⟩ (by rw [hTs]; omega) k (by simpa using hk) _).mono ?_; rintro e w2 ⟨rfl, hw2⟩; have hb2 : But [] w1 w2 := (by rcases hw2 with rfl | ⟨t, rfl⟩; exact But.refl _ _; exact But.bytes _ _); clear hw2)
      | (go_at_call 76; refine (join_any _ n k (by omega) (by have := pu16_lt _ _ _ (by omega) hn; omega) _).mono ?_; rintro e w3 ⟨rfl, hw3⟩; rw [← hw3]; clear hw3 w3)
      | (go_at_call 26; refine (float_any _ (wd_lt _ (Nat.lt_of_le_of_lt (by rw [joinN_RN (by have := pu16_lt _ _ _ (by omega) hn; omega)]; exact RN_le _ _) (by decide))) _ (hg.keep ((hbq.trans hb1).trans hb2) (by simp))).mono ?_; rintro e w4 ⟨rfl, hb4⟩))
    go_ret2
    exact ⟨by simp [toList_str, beq_dec], ((hbq.trans hb1).trans hb2).trans hb4⟩
end Go.Proofs.YtnghppgpdeghfaaGreatDoor
