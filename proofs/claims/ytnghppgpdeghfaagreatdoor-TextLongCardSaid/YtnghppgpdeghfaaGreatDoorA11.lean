/- text.right: what is no float's text. -/
import Derived.Test.YtnghppgpdeghfaaGreatDoorA10
namespace Go.Proofs.YtnghppgpdeghfaaGreatDoor
open Go.RowKit Go.Proofs.YtnghppgpdeghfaaGreatDoor.Fl Go.Proofs.YtnghppgpdeghfaaGreatDoor.Pt Go.Proofs.YtnghppgpdeghfaaGreatDoor.Tx

theorem atoi_no (s : ByteArray) (hs : s.size ≤ 281474976710656) (h : ∀ k, Lib.atoiAll s.data.toList ≠ .ok k) (w : World) (hg : Gl w) :
    Calls Tryz.prog 75 #[.string s] w fun e w' => (∃ (k : Int) (T : TypeId) (v : Value), e = .returned (.tuple #[.int .i64 k, .iface T v])) ∧ But [] w w' := by
  cases hk : Lib.atoiAll s.data.toList with
  | ok k => exact absurd hk (h k)
  | range =>
    obtain ⟨te, pe, hv⟩ := hg.rng
    exact (Tryz.strconv_Atoi_range s hs hk (.iface te pe) w hv (.inr ⟨te, pe, rfl⟩)).mono fun e w' ⟨N, h1, _, _, h2⟩ => ⟨⟨_, _, _, h1⟩, But.of_below h2⟩
  | _ =>
    obtain ⟨te, pe, hv⟩ := hg.syn
    exact (Tryz.strconv_Atoi_syntax s hs hk (.iface te pe) w hv (.inr ⟨te, pe, rfl⟩)).mono fun e w' ⟨N, h1, _, _, h2⟩ => ⟨⟨_, _, _, h1⟩, But.of_below h2⟩

set_option linter.unusedSimpArgs false in
set_option maxRecDepth 100000 in
set_option maxHeartbeats 2000000 in
theorem right_a (neg : Bool) (M T : List UInt8) (hM : ∀ c ∈ M, isH c = true) (hM0 : M ≠ []) (hl : (tok neg M T).length ≤ 65536) (hn : pu16 0 M = .range) (k : Int) (hk : Lib.atoiAll T = .ok k) (w : World) (hg : Gl w) :
    Calls Tryz.prog 62 #[.string (str (tok neg M T))] w fun e w' => e = .returned (.tuple #[.float .f64 0, .bool false]) ∧ But [] w w' := by
  obtain ⟨m5, hm5⟩ := hg.max
  have htl : (str (tok neg M T)).toList = tok neg M T := toList_str _
  have s1 : ((str (tok neg M T)).toList == [110, 97, 110]) = false := by rw [htl]; unfold tok; cases neg <;> simp
  have s2 : ((str (tok neg M T)).toList == [105, 110, 102]) = false := by rw [htl]; unfold tok; cases neg <;> simp
  have s3 : ((str (tok neg M T)).toList == [45, 105, 110, 102]) = false := by rw [htl]; unfold tok; cases neg <;> simp
  have htr : (⟨(Lib.trimPrefix (str (tok neg M T)).data.toList (⟨#[45]⟩ : ByteArray).data.toList).toArray⟩ : ByteArray) = str ([48, 120] ++ (M ++ 112 :: T)) := by
    unfold str
    simp only [List.toList_toArray]
    rw [trim_p]
  clear htl
  have hsz : (str (48 :: 120 :: (M ++ 112 :: T))).size = M.length + (T.length + 1) + 1 + 1 := by simp [str, ByteArray.size]
  have hex : (str (48 :: 120 :: (M ++ 112 :: T))).extract 2 (M.length + (T.length + 1) + 1 + 1) = str (M ++ 112 :: T) := by
    apply ByteArray.ext
    simp [str]
    exact List.take_of_length_le (by simp)
  have hlen : M.length + T.length + 3 ≤ 65536 := by unfold tok at hl; cases neg <;> simp at hl <;> omega
  have hct : ∀ (s : ByteArray), s = str (M ++ 112 :: T) → (Lib.cut s.data.toList (⟨#[112]⟩ : ByteArray).data.toList) = (M, T, true) := fun s hs => by
    rw [hs]
    unfold str
    simp only [List.toList_toArray]
    exact cut_p M T (no_p hM)
  go_enter Tryz.func62, Tryz.ntmps62
  go_wp2_with (go_at_call 73; refine (Tryz.strings_TrimPrefix _ _ _).mono ?_; rintro e w1 ⟨rfl, hw1⟩; rw [hw1, htr]; clear hw1 w1)
  go_wp2_with (go_at_call 72; refine (Tryz.strings_Cut _ _ m5 _ (by simp [str, ByteArray.size]; omega) hm5).mono ?_; rintro e w1 ⟨rfl, nq, rfl⟩; rw [hct _ rfl])
  have hbq : But [] w (w.drewN nq) := (But.refl _ _).drewN nq
  have hMs : (⟨M.toArray⟩ : ByteArray).size = M.length := by simp [ByteArray.size]
  have hTs : (⟨T.toArray⟩ : ByteArray).size = T.length := by simp [ByteArray.size]
  have hM1 : M.length ≠ 0 := fun h => hM0 (List.length_eq_zero_iff.1 h)
  go_wp2_with (first
    | (go_at_call 74; refine (pu_no ⟨M.toArray⟩ (by rw [hMs]; exact hM1) (by rw [hMs]; omega) (by simpa using hM) (by simpa using hn) _ (hg.keep hbq (by simp))).mono ?_; rintro e w1 ⟨⟨xx, TT, vv, rfl⟩, hb1⟩)
    | (go_at_call 75; refine (Tryz.strconv_Atoi_ok ⟨T.toArray⟩ (by rw [hTs]; omega) k (by simpa using hk) _).mono ?_; rintro e w2 ⟨rfl, hw2⟩; have hb2 : But [] w1 w2 := (by rcases hw2 with rfl | ⟨t, rfl⟩; exact But.refl _ _; exact But.bytes _ _); clear hw2))
  go_ret2
  exact ⟨rfl, (hbq.trans hb1).trans hb2⟩

set_option linter.unusedSimpArgs false in
set_option maxRecDepth 100000 in
set_option maxHeartbeats 2000000 in
theorem right_b (neg : Bool) (M T : List UInt8) (hM : ∀ c ∈ M, isH c = true) (hM0 : M ≠ []) (hl : (tok neg M T).length ≤ 65536) (hn : pu16 0 M = .range) (hk : ∀ k, Lib.atoiAll T ≠ .ok k) (w : World) (hg : Gl w) :
    Calls Tryz.prog 62 #[.string (str (tok neg M T))] w fun e w' => e = .returned (.tuple #[.float .f64 0, .bool false]) ∧ But [] w w' := by
  obtain ⟨m5, hm5⟩ := hg.max
  have htl : (str (tok neg M T)).toList = tok neg M T := toList_str _
  have s1 : ((str (tok neg M T)).toList == [110, 97, 110]) = false := by rw [htl]; unfold tok; cases neg <;> simp
  have s2 : ((str (tok neg M T)).toList == [105, 110, 102]) = false := by rw [htl]; unfold tok; cases neg <;> simp
  have s3 : ((str (tok neg M T)).toList == [45, 105, 110, 102]) = false := by rw [htl]; unfold tok; cases neg <;> simp
  have htr : (⟨(Lib.trimPrefix (str (tok neg M T)).data.toList (⟨#[45]⟩ : ByteArray).data.toList).toArray⟩ : ByteArray) = str ([48, 120] ++ (M ++ 112 :: T)) := by
    unfold str
    simp only [List.toList_toArray]
    rw [trim_p]
  clear htl
  have hsz : (str (48 :: 120 :: (M ++ 112 :: T))).size = M.length + (T.length + 1) + 1 + 1 := by simp [str, ByteArray.size]
  have hex : (str (48 :: 120 :: (M ++ 112 :: T))).extract 2 (M.length + (T.length + 1) + 1 + 1) = str (M ++ 112 :: T) := by
    apply ByteArray.ext
    simp [str]
    exact List.take_of_length_le (by simp)
  have hlen : M.length + T.length + 3 ≤ 65536 := by unfold tok at hl; cases neg <;> simp at hl <;> omega
  have hct : ∀ (s : ByteArray), s = str (M ++ 112 :: T) → (Lib.cut s.data.toList (⟨#[112]⟩ : ByteArray).data.toList) = (M, T, true) := fun s hs => by
    rw [hs]
    unfold str
    simp only [List.toList_toArray]
    exact cut_p M T (no_p hM)
  go_enter Tryz.func62, Tryz.ntmps62
  go_wp2_with (go_at_call 73; refine (Tryz.strings_TrimPrefix _ _ _).mono ?_; rintro e w1 ⟨rfl, hw1⟩; rw [hw1, htr]; clear hw1 w1)
  go_wp2_with (go_at_call 72; refine (Tryz.strings_Cut _ _ m5 _ (by simp [str, ByteArray.size]; omega) hm5).mono ?_; rintro e w1 ⟨rfl, nq, rfl⟩; rw [hct _ rfl])
  have hbq : But [] w (w.drewN nq) := (But.refl _ _).drewN nq
  have hMs : (⟨M.toArray⟩ : ByteArray).size = M.length := by simp [ByteArray.size]
  have hTs : (⟨T.toArray⟩ : ByteArray).size = T.length := by simp [ByteArray.size]
  have hM1 : M.length ≠ 0 := fun h => hM0 (List.length_eq_zero_iff.1 h)
  go_wp2_with (first
    | (go_at_call 74; refine (pu_no ⟨M.toArray⟩ (by rw [hMs]; exact hM1) (by rw [hMs]; omega) (by simpa using hM) (by simpa using hn) _ (hg.keep hbq (by simp))).mono ?_; rintro e w1 ⟨⟨xx, TT, vv, rfl⟩, hb1⟩)
    | (go_at_call 75; refine (atoi_no ⟨T.toArray⟩ (by rw [hTs]; omega) (by simpa using hk) _ (hg.keep (hbq.trans hb1) (by simp))).mono ?_; rintro e w2 ⟨⟨kk, ta, va, rfl⟩, hb2⟩))
  go_ret2
  exact ⟨rfl, (hbq.trans hb1).trans hb2⟩

set_option linter.unusedSimpArgs false in
set_option maxRecDepth 100000 in
set_option maxHeartbeats 2000000 in
theorem right_c (neg : Bool) (M T : List UInt8) (hM : ∀ c ∈ M, isH c = true) (hM0 : M ≠ []) (hl : (tok neg M T).length ≤ 65536) (n : Nat) (hn : pu16 0 M = .ok n) (hk : ∀ k, Lib.atoiAll T ≠ .ok k) (w : World) (hg : Gl w) :
    Calls Tryz.prog 62 #[.string (str (tok neg M T))] w fun e w' => e = .returned (.tuple #[.float .f64 0, .bool false]) ∧ But [] w w' := by
  obtain ⟨m5, hm5⟩ := hg.max
  have htl : (str (tok neg M T)).toList = tok neg M T := toList_str _
  have s1 : ((str (tok neg M T)).toList == [110, 97, 110]) = false := by rw [htl]; unfold tok; cases neg <;> simp
  have s2 : ((str (tok neg M T)).toList == [105, 110, 102]) = false := by rw [htl]; unfold tok; cases neg <;> simp
  have s3 : ((str (tok neg M T)).toList == [45, 105, 110, 102]) = false := by rw [htl]; unfold tok; cases neg <;> simp
  have htr : (⟨(Lib.trimPrefix (str (tok neg M T)).data.toList (⟨#[45]⟩ : ByteArray).data.toList).toArray⟩ : ByteArray) = str ([48, 120] ++ (M ++ 112 :: T)) := by
    unfold str
    simp only [List.toList_toArray]
    rw [trim_p]
  clear htl
  have hsz : (str (48 :: 120 :: (M ++ 112 :: T))).size = M.length + (T.length + 1) + 1 + 1 := by simp [str, ByteArray.size]
  have hex : (str (48 :: 120 :: (M ++ 112 :: T))).extract 2 (M.length + (T.length + 1) + 1 + 1) = str (M ++ 112 :: T) := by
    apply ByteArray.ext
    simp [str]
    exact List.take_of_length_le (by simp)
  have hlen : M.length + T.length + 3 ≤ 65536 := by unfold tok at hl; cases neg <;> simp at hl <;> omega
  have hct : ∀ (s : ByteArray), s = str (M ++ 112 :: T) → (Lib.cut s.data.toList (⟨#[112]⟩ : ByteArray).data.toList) = (M, T, true) := fun s hs => by
    rw [hs]
    unfold str
    simp only [List.toList_toArray]
    exact cut_p M T (no_p hM)
  go_enter Tryz.func62, Tryz.ntmps62
  go_wp2_with (go_at_call 73; refine (Tryz.strings_TrimPrefix _ _ _).mono ?_; rintro e w1 ⟨rfl, hw1⟩; rw [hw1, htr]; clear hw1 w1)
  go_wp2_with (go_at_call 72; refine (Tryz.strings_Cut _ _ m5 _ (by simp [str, ByteArray.size]; omega) hm5).mono ?_; rintro e w1 ⟨rfl, nq, rfl⟩; rw [hct _ rfl])
  have hbq : But [] w (w.drewN nq) := (But.refl _ _).drewN nq
  have hMs : (⟨M.toArray⟩ : ByteArray).size = M.length := by simp [ByteArray.size]
  have hTs : (⟨T.toArray⟩ : ByteArray).size = T.length := by simp [ByteArray.size]
  have hM1 : M.length ≠ 0 := fun h => hM0 (List.length_eq_zero_iff.1 h)
  go_wp2_with (first
    | (go_at_call 74; refine (pu_ok ⟨M.toArray⟩ (by rw [hMs]; exact hM1) (by rw [hMs]; omega) (by simpa using hM) n (by simpa using hn) _).mono ?_; rintro e w1 ⟨rfl, hb1⟩)
    | (go_at_call 75; refine (atoi_no ⟨T.toArray⟩ (by rw [hTs]; omega) (by simpa using hk) _ (hg.keep (hbq.trans hb1) (by simp))).mono ?_; rintro e w2 ⟨⟨kk, ta, va, rfl⟩, hb2⟩))
  go_ret2
  exact ⟨rfl, (hbq.trans hb1).trans hb2⟩

set_option linter.unusedSimpArgs false in
set_option maxRecDepth 100000 in
set_option maxHeartbeats 2000000 in
theorem right_d (neg : Bool) (M T : List UInt8) (hM : ∀ c ∈ M, isH c = true) (hM0 : M ≠ []) (hl : (tok neg M T).length ≤ 65536) (n : Nat) (hn : pu16 0 M = .ok n) (k : Int) (hk : Lib.atoiAll T = .ok k) (k1 : k < -2000) (w : World) (hg : Gl w) :
    Calls Tryz.prog 62 #[.string (str (tok neg M T))] w fun e w' => e = .returned (.tuple #[.float .f64 0, .bool false]) ∧ But [] w w' := by
  obtain ⟨m5, hm5⟩ := hg.max
  have htl : (str (tok neg M T)).toList = tok neg M T := toList_str _
  have s1 : ((str (tok neg M T)).toList == [110, 97, 110]) = false := by rw [htl]; unfold tok; cases neg <;> simp
  have s2 : ((str (tok neg M T)).toList == [105, 110, 102]) = false := by rw [htl]; unfold tok; cases neg <;> simp
  have s3 : ((str (tok neg M T)).toList == [45, 105, 110, 102]) = false := by rw [htl]; unfold tok; cases neg <;> simp
  have htr : (⟨(Lib.trimPrefix (str (tok neg M T)).data.toList (⟨#[45]⟩ : ByteArray).data.toList).toArray⟩ : ByteArray) = str ([48, 120] ++ (M ++ 112 :: T)) := by
    unfold str
    simp only [List.toList_toArray]
    rw [trim_p]
  clear htl
  have hsz : (str (48 :: 120 :: (M ++ 112 :: T))).size = M.length + (T.length + 1) + 1 + 1 := by simp [str, ByteArray.size]
  have hex : (str (48 :: 120 :: (M ++ 112 :: T))).extract 2 (M.length + (T.length + 1) + 1 + 1) = str (M ++ 112 :: T) := by
    apply ByteArray.ext
    simp [str]
    exact List.take_of_length_le (by simp)
  have hlen : M.length + T.length + 3 ≤ 65536 := by unfold tok at hl; cases neg <;> simp at hl <;> omega
  have hct : ∀ (s : ByteArray), s = str (M ++ 112 :: T) → (Lib.cut s.data.toList (⟨#[112]⟩ : ByteArray).data.toList) = (M, T, true) := fun s hs => by
    rw [hs]
    unfold str
    simp only [List.toList_toArray]
    exact cut_p M T (no_p hM)
  go_enter Tryz.func62, Tryz.ntmps62
  go_wp2_with (go_at_call 73; refine (Tryz.strings_TrimPrefix _ _ _).mono ?_; rintro e w1 ⟨rfl, hw1⟩; rw [hw1, htr]; clear hw1 w1)
  go_wp2_with (go_at_call 72; refine (Tryz.strings_Cut _ _ m5 _ (by simp [str, ByteArray.size]; omega) hm5).mono ?_; rintro e w1 ⟨rfl, nq, rfl⟩; rw [hct _ rfl])
  have hbq : But [] w (w.drewN nq) := (But.refl _ _).drewN nq
  have hMs : (⟨M.toArray⟩ : ByteArray).size = M.length := by simp [ByteArray.size]
  have hTs : (⟨T.toArray⟩ : ByteArray).size = T.length := by simp [ByteArray.size]
  have hM1 : M.length ≠ 0 := fun h => hM0 (List.length_eq_zero_iff.1 h)
  go_wp2_with (first
    | (go_at_call 74; refine (pu_ok ⟨M.toArray⟩ (by rw [hMs]; exact hM1) (by rw [hMs]; omega) (by simpa using hM) n (by simpa using hn) _).mono ?_; rintro e w1 ⟨rfl, hb1⟩)
    | (go_at_call 75; refine (Tryz.strconv_Atoi_ok ⟨T.toArray⟩ (by rw [hTs]; omega) k (by simpa using hk) _).mono ?_; rintro e w2 ⟨rfl, hw2⟩; have hb2 : But [] w1 w2 := (by rcases hw2 with rfl | ⟨t, rfl⟩; exact But.refl _ _; exact But.bytes _ _); clear hw2))
  go_ret2
  exact ⟨rfl, (hbq.trans hb1).trans hb2⟩

set_option linter.unusedSimpArgs false in
set_option maxRecDepth 100000 in
set_option maxHeartbeats 2000000 in
theorem right_e (neg : Bool) (M T : List UInt8) (hM : ∀ c ∈ M, isH c = true) (hM0 : M ≠ []) (hl : (tok neg M T).length ≤ 65536) (n : Nat) (hn : pu16 0 M = .ok n) (k : Int) (hk : Lib.atoiAll T = .ok k) (k1 : 2000 < k) (w : World) (hg : Gl w) :
    Calls Tryz.prog 62 #[.string (str (tok neg M T))] w fun e w' => e = .returned (.tuple #[.float .f64 0, .bool false]) ∧ But [] w w' := by
  obtain ⟨m5, hm5⟩ := hg.max
  have htl : (str (tok neg M T)).toList = tok neg M T := toList_str _
  have s1 : ((str (tok neg M T)).toList == [110, 97, 110]) = false := by rw [htl]; unfold tok; cases neg <;> simp
  have s2 : ((str (tok neg M T)).toList == [105, 110, 102]) = false := by rw [htl]; unfold tok; cases neg <;> simp
  have s3 : ((str (tok neg M T)).toList == [45, 105, 110, 102]) = false := by rw [htl]; unfold tok; cases neg <;> simp
  have htr : (⟨(Lib.trimPrefix (str (tok neg M T)).data.toList (⟨#[45]⟩ : ByteArray).data.toList).toArray⟩ : ByteArray) = str ([48, 120] ++ (M ++ 112 :: T)) := by
    unfold str
    simp only [List.toList_toArray]
    rw [trim_p]
  clear htl
  have hsz : (str (48 :: 120 :: (M ++ 112 :: T))).size = M.length + (T.length + 1) + 1 + 1 := by simp [str, ByteArray.size]
  have hex : (str (48 :: 120 :: (M ++ 112 :: T))).extract 2 (M.length + (T.length + 1) + 1 + 1) = str (M ++ 112 :: T) := by
    apply ByteArray.ext
    simp [str]
    exact List.take_of_length_le (by simp)
  have hlen : M.length + T.length + 3 ≤ 65536 := by unfold tok at hl; cases neg <;> simp at hl <;> omega
  have hct : ∀ (s : ByteArray), s = str (M ++ 112 :: T) → (Lib.cut s.data.toList (⟨#[112]⟩ : ByteArray).data.toList) = (M, T, true) := fun s hs => by
    rw [hs]
    unfold str
    simp only [List.toList_toArray]
    exact cut_p M T (no_p hM)
  go_enter Tryz.func62, Tryz.ntmps62
  go_wp2_with (go_at_call 73; refine (Tryz.strings_TrimPrefix _ _ _).mono ?_; rintro e w1 ⟨rfl, hw1⟩; rw [hw1, htr]; clear hw1 w1)
  go_wp2_with (go_at_call 72; refine (Tryz.strings_Cut _ _ m5 _ (by simp [str, ByteArray.size]; omega) hm5).mono ?_; rintro e w1 ⟨rfl, nq, rfl⟩; rw [hct _ rfl])
  have hbq : But [] w (w.drewN nq) := (But.refl _ _).drewN nq
  have hMs : (⟨M.toArray⟩ : ByteArray).size = M.length := by simp [ByteArray.size]
  have hTs : (⟨T.toArray⟩ : ByteArray).size = T.length := by simp [ByteArray.size]
  have hM1 : M.length ≠ 0 := fun h => hM0 (List.length_eq_zero_iff.1 h)
  go_wp2_with (first
    | (go_at_call 74; refine (pu_ok ⟨M.toArray⟩ (by rw [hMs]; exact hM1) (by rw [hMs]; omega) (by simpa using hM) n (by simpa using hn) _).mono ?_; rintro e w1 ⟨rfl, hb1⟩)
    | (go_at_call 75; refine (Tryz.strconv_Atoi_ok ⟨T.toArray⟩ (by rw [hTs]; omega) k (by simpa using hk) _).mono ?_; rintro e w2 ⟨rfl, hw2⟩; have hb2 : But [] w1 w2 := (by rcases hw2 with rfl | ⟨t, rfl⟩; exact But.refl _ _; exact But.bytes _ _); clear hw2))
  go_ret2
  exact ⟨rfl, (hbq.trans hb1).trans hb2⟩

end Go.Proofs.YtnghppgpdeghfaaGreatDoor
