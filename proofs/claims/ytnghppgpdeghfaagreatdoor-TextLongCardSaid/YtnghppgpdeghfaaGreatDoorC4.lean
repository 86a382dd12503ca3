/- TextLong: what the readers answer on its text. -/
import Derived.Test.YtnghppgpdeghfaaGreatDoorC3
namespace Go.Proofs.YtnghppgpdeghfaaGreatDoor
open Go.RowKit Go.Proofs.YtnghppgpdeghfaaGreatDoor.Fl Go.Proofs.YtnghppgpdeghfaaGreatDoor.Pt Go.Proofs.YtnghppgpdeghfaaGreatDoor.Tx

theorem tlL_len (s : ByteArray) (m k : Nat) (hm : m ≤ s.size) (h5 : m ≤ 5) : (tlL s m k).length = k + 5 := by
  unfold tlL
  rw [List.nil_append, List.length_append, bts_len, List.length_drop, tlB_len]
  simp
  omega
theorem tlL_at (s : ByteArray) (m k i : Nat) (hm : m ≤ s.size) (h5 : m ≤ 5) (hi : 5 ≤ i) (hk : i < k + 5) : (tlL s m k)[i]? = some 49 := by
  have hb : (bts (s.extract 0 m)).length = m := by rw [bts_len]; simp; omega
  unfold tlL
  rw [List.nil_append, List.getElem?_append_right (by omega), hb, List.getElem?_drop, show m + (i - m) = i by omega]
  unfold tlB
  rw [List.getElem?_append_right (by simp; omega), List.getElem?_replicate, if_pos (by simp; omega)]
/-- The text's bytes. -/
def tlT (s : ByteArray) (m k : Nat) : List UInt8 := (tlL s m k).map UInt8.ofNat
theorem tlT_at (s : ByteArray) (m k i : Nat) (hm : m ≤ s.size) (h5 : m ≤ 5) (hi : 5 ≤ i) (hk : i < k + 5) : (tlT s m k)[i]? = some 49 := by
  unfold tlT
  rw [List.getElem?_map, tlL_at s m k i hm h5 hi hk]; rfl
theorem tlT_len (s : ByteArray) (m k : Nat) (hm : m ≤ s.size) (h5 : m ≤ 5) : (tlT s m k).length = k + 5 := by unfold tlT; rw [List.length_map, tlL_len s m k hm h5]
theorem num_last (x y : Nat) : (num x y).getLast? = some 41 := by
  unfold num
  rw [show (40 :: (fl x ++ 44 :: (fl y ++ [41])) : List UInt8) = (40 :: (fl x ++ 44 :: fl y)) ++ [41] by simp, List.getLast?_append]
  rfl
theorem not_num (L : List UInt8) (h : L[65535]? = some 49) (hl : L.length = 65536) (x y : Nat) : L ≠ num x y := by
  intro e
  have h1 := num_last x y
  rw [← e, List.getLast?_eq_getElem?, hl] at h1
  rw [h] at h1; cases h1
theorem nu_4 (L : List UInt8) (h : L[5]? = some 49) : ∃ c, nu L 4 = (false, c) := by
  rcases pair (x := tk L [40] 4) with ⟨b, k⟩ | ⟨b, k⟩
  · have hb : b = 5 := by have := (tk_is _ _ _ _ k).1; simpa using this
    subst hb
    refine ⟨5, nu_2 k ?_⟩
    have hsf : sf L 5 = (false, 5) := by
      rw [sf_sgn, if_neg (by rw [h]; decide), if_neg (by rw [h]; decide), sgn_c (by rw [h]; decide)]
      exact sg_1 (by rw [tk, if_neg (by rw [h]; decide)])
    unfold fo bd; rw [hsf]; simp
  · exact ⟨b, nu_1 k⟩
theorem tk_flt (L : List UInt8) (h : L[5]? = some 49) : ∃ b, tk L fltT 0 = (false, b) := by
  rcases pair (x := tk L fltT 0) with ⟨b, k⟩ | ⟨b, k⟩
  · have h1 := (tk_is _ _ _ _ k).2
    rw [List.drop_zero] at h1
    rw [h1] at h
    simp [fltT] at h
  · exact ⟨b, k⟩
theorem str_eq (l : List UInt8) : (⟨l.toArray⟩ : ByteArray) = str l := rfl
theorem tl_long (l : List UInt8) (hl : 65536 < l.length) : TLok 2 (str l) := by
  have hs : 65536 < (str l).size := hl
  refine ⟨0, 0, 0, .inl ⟨decide_eq_true (by omega), rfl, rfl, rfl, rfl⟩, fun w hg => (Read_any _ w hg).mono ?_, fun w => (Doc_any _ w).mono ?_, fun w hg => Zpk_long _ w hs hg, fun w hg => Flt_long _ w hs hg⟩
  all_goals
    rintro e w' ⟨hb, ⟨_, h⟩ | ⟨h, _⟩ | ⟨h, _⟩ | ⟨h, _⟩⟩
    · exact ⟨h, hb⟩
    all_goals omega
theorem tl_full (l : List UInt8) (hl : l.length = 65536) (h5 : l[5]? = some 49) (hlast : l[65535]? = some 49) : TLok 12 (str l) := by
  have hz : (str l).size = 65536 := hl
  obtain ⟨bf, kf⟩ := tk_flt l h5
  have kf' : tk (str l).data.toList fltT 0 = (false, bf) := by rw [str_list]; exact kf
  obtain ⟨bz, kz⟩ : ∃ bz, ∀ w, Gl w → Calls Tryz.prog 12 #[.string (str l)] w fun e w' => e = ZpE bz 12 ∧ But [] w w' := by
    rcases pair (x := tk l zpkT 0) with ⟨b, k⟩ | ⟨b, k⟩
    · have hb : b = 4 := by have := (tk_is _ _ _ _ k).1; simpa [zpkT] using this
      subst hb
      obtain ⟨c, k2⟩ := nu_4 l h5
      exact ⟨c, fun w hg => Zpk_bad2 _ w (by omega) 4 c (by rw [str_list]; exact k) (by rw [str_list]; exact k2) hg⟩
    · exact ⟨b, fun w hg => Zpk_bad1 _ w (by omega) b (by rw [str_list]; exact k) hg⟩
  obtain ⟨b, hb⟩ : ∃ b, ∀ (e : Ending) (w w' : World), (But [] w w' ∧ ((65536 < (str l).size ∧ e = RdE 0 0 0 2) ∨ ((str l).size ≤ 65536 ∧ ∃ b, nu (str l).data.toList 0 = (false, b) ∧ e = RdE 0 0 b 12) ∨ ((str l).size ≤ 65536 ∧ ∃ c, c < (str l).size ∧ nu (str l).data.toList 0 = (true, c) ∧ e = RdE 0 0 c 12) ∨
      ((str l).size ≤ 65536 ∧ ∃ x y, nu (str l).data.toList 0 = (true, (str l).size) ∧ e = RdE x y 0 0 ∧ x < 18446744073709551616 ∧ y < 18446744073709551616 ∧ Is (str l).data.toList 0 (num x y) (str l).size))) → e = RdE 0 0 b 12 ∧ But [] w w' := by
    rcases pair (x := nu (str l).data.toList 0) with ⟨c, k⟩ | ⟨b, k⟩
    · refine ⟨c, fun e w w' h => ?_⟩
      obtain ⟨hb, ⟨h, _⟩ | ⟨_, b, h, _⟩ | ⟨_, d, _, h, h2⟩ | ⟨_, x, y, h, _, _, _, h5⟩⟩ := h
      · omega
      · rw [k] at h; cases h
      · rw [k] at h; cases h; exact ⟨h2, hb⟩
      · rw [str_list] at h5
        exact absurd (whole_num h5 (by rw [hz, hl]; exact Nat.lt_irrefl _)) (not_num l hlast hl x y)
    · refine ⟨b, fun e w w' h => ?_⟩
      obtain ⟨hb, ⟨h, _⟩ | ⟨_, d, h, h2⟩ | ⟨_, d, _, h, _⟩ | ⟨_, x, y, h, _⟩⟩ := h
      · omega
      · rw [k] at h; cases h; exact ⟨h2, hb⟩
      · rw [k] at h; cases h
      · rw [k] at h; cases h
  exact ⟨b, bz, bf, .inr ⟨decide_eq_false (by omega), rfl⟩, fun w hg => (Read_any _ w hg).mono fun e w' h => hb e w w' h, fun w => (Doc_any _ w).mono fun e w' h => hb e w w' h, kz, fun w hg => Flt_bad _ w (by omega) bf kf' hg⟩
/-- Every TextLong is true. -/
theorem textLong_any (s : ByteArray) (n : Nat) (hn : n < 256) (W : World) (hg : Gl W) : Calls Tryz.prog 4 #[.string s, .int .u8 (n : Int)] W fun e w' => e = .returned (.bool true) ∧ But [] W w' := by
  refine textLong_walk s n (n % 3) rfl hn (fun m k h5 hm hk _ => ?_) W hg
  have hl := tlT_len s m k hm h5
  by_cases hd : n % 3 = 0
  · exact ⟨12, tl_full (tlT s m k) (by omega) (tlT_at s m k 5 hm h5 (by omega) (by omega)) (tlT_at s m k 65535 hm h5 (by omega) (by omega))⟩
  · exact ⟨2, tl_long (tlT s m k) (by omega)⟩
end Go.Proofs.YtnghppgpdeghfaaGreatDoor
