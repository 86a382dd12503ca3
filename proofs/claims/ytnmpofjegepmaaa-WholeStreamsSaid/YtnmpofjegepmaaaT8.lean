/- The reader of saved bytes. -/
import Derived.Test.YtnmpofjegepmaaaT7
namespace Go.Proofs.Ytnmpofjegepmaaa
open Go.RowKit Go.Proofs.Ytnmpofjegepmaaa.Fl Go.Proofs.Ytnmpofjegepmaaa.Pt

/-- A reader before bytes. -/
def RD (w : World) (r P : Nat) (L : List Nat) : Prop := P ≠ r ∧ ∃ o cap, w.heap[r]? = some (.cells #[.slice (some ⟨P, o, none⟩) L.length cap, .bool false] 127 (0, 0)) ∧ L.length ≤ cap ∧ ∀ j x : Nat, L[j]? = some x → w.cell? ⟨P, o + j, none⟩ = some (.int .u8 (x : Int))
theorem or8 (y : Nat) (h : y < 18446744073709551616) : bits .or .u64 ((y / 256 * 256 : Nat) : Int) ((y % 256 : Nat) : Int) = (y : Int) := by
  rw [bits_or_u64_nat _ _ (by omega) (by omega)]
  congr 1
  have h1 := Nat.shiftLeft_add_eq_or_of_lt (b := y % 256) (i := 8) (by omega) (y / 256)
  rw [Nat.shiftLeft_eq] at h1
  have h2 : (2 : Nat) ^ 8 = 256 := rfl
  rw [h2] at h1
  omega

set_option linter.unusedSimpArgs false in
set_option maxHeartbeats 1000000 in
set_option maxRecDepth 100000 in
theorem rdnumber_any (r P x : Nat) (L : List Nat) (hx : x < 18446744073709551616) (w : World) (h : RD w r P (be8 x ++ L)) (hL : L.length ≤ 100000) :
    Calls Try.prog 88 #[.pointer (some ⟨r, 0, none⟩)] w fun e w' => e = .returned (.int .u64 (x : Int)) ∧ RD w' r P L ∧ But [r] w w' := by
  obtain ⟨hPr, o, cap, hb, hc, hl⟩ := h
  have hlen : (be8 x ++ L).length = L.length + 8 := by rw [List.length_append, be8_len]; omega
  rw [hlen] at hb hc
  have c0 : w.cell? ⟨r, 0, none⟩ = some (.slice (some ⟨P, o, none⟩) (L.length + 8) cap) := by rw [cell_of_row w r 0 _ _ _ hb]; rfl
  have t8 : (8 : Int) ≤ cap := by omega
  have HL := Lib.hid hl
  clear hl
  go_enter Try.func88, Try.ntmps88
  go_wp2_with fail
  go_loopw [3, 12] (fun nv i wr => ∃ k : Nat, k ≤ 8 ∧ i = .int .i64 k ∧ nv = .int .u64 ((x / 2 ^ (64 - 8 * k) : Nat) : Int) ∧ wr = w) (fun _ i _ => 8 - (intOf i).toNat)
  case atStart => exact ⟨0, by omega, rfl, by rw [Nat.div_eq_of_lt (by simpa using hx)]; rfl, rfl⟩
  case round =>
    obtain ⟨k, hk, rfl, rfl, rfl⟩ := hrel
    have hkc : k = 0 ∨ k = 1 ∨ k = 2 ∨ k = 3 ∨ k = 4 ∨ k = 5 ∨ k = 6 ∨ k = 7 ∨ k = 8 := by omega
    rcases hkc with rfl | rfl | rfl | rfl | rfl | rfl | rfl | rfl | rfl
    · have hk1 := HL.out 0 _ rfl
      (try simp only [Nat.reducePow, Nat.reduceMul, Nat.reduceSub, Nat.add_zero] at hk1)
      go_wp2_with fail
      have e1 : (x : Int) / 18446744073709551616 * 256 = ((x / 72057594037927936 / 256 * 256 : Nat) : Int) := by omega
      have e2 : (x : Int) / 72057594037927936 % 256 = ((x / 72057594037927936 % 256 : Nat) : Int) := by omega
      have e3 := or8 (x / 72057594037927936) (by omega)
      refine ⟨⟨1, by omega, by first | rfl | go_num, ?_, by first | rfl | trivial⟩, by simp [intOf]⟩
      (try simp only [Int.ediv_one])
      rw [e1, e2, e3]
      (try simp)
    · have hk1 := HL.out 1 _ rfl
      (try simp only [Nat.reducePow, Nat.reduceMul, Nat.reduceSub, Nat.add_zero] at hk1)
      go_wp2_with fail
      have e1 : (x : Int) / 72057594037927936 * 256 = ((x / 281474976710656 / 256 * 256 : Nat) : Int) := by omega
      have e2 : (x : Int) / 281474976710656 % 256 = ((x / 281474976710656 % 256 : Nat) : Int) := by omega
      have e3 := or8 (x / 281474976710656) (by omega)
      refine ⟨⟨2, by omega, by first | rfl | go_num, ?_, by first | rfl | trivial⟩, by simp [intOf]⟩
      (try simp only [Int.ediv_one])
      rw [e1, e2, e3]
      (try simp)
    · have hk1 := HL.out 2 _ rfl
      (try simp only [Nat.reducePow, Nat.reduceMul, Nat.reduceSub, Nat.add_zero] at hk1)
      go_wp2_with fail
      have e1 : (x : Int) / 281474976710656 * 256 = ((x / 1099511627776 / 256 * 256 : Nat) : Int) := by omega
      have e2 : (x : Int) / 1099511627776 % 256 = ((x / 1099511627776 % 256 : Nat) : Int) := by omega
      have e3 := or8 (x / 1099511627776) (by omega)
      refine ⟨⟨3, by omega, by first | rfl | go_num, ?_, by first | rfl | trivial⟩, by simp [intOf]⟩
      (try simp only [Int.ediv_one])
      rw [e1, e2, e3]
      (try simp)
    · have hk1 := HL.out 3 _ rfl
      (try simp only [Nat.reducePow, Nat.reduceMul, Nat.reduceSub, Nat.add_zero] at hk1)
      go_wp2_with fail
      have e1 : (x : Int) / 1099511627776 * 256 = ((x / 4294967296 / 256 * 256 : Nat) : Int) := by omega
      have e2 : (x : Int) / 4294967296 % 256 = ((x / 4294967296 % 256 : Nat) : Int) := by omega
      have e3 := or8 (x / 4294967296) (by omega)
      refine ⟨⟨4, by omega, by first | rfl | go_num, ?_, by first | rfl | trivial⟩, by simp [intOf]⟩
      (try simp only [Int.ediv_one])
      rw [e1, e2, e3]
      (try simp)
    · have hk1 := HL.out 4 _ rfl
      (try simp only [Nat.reducePow, Nat.reduceMul, Nat.reduceSub, Nat.add_zero] at hk1)
      go_wp2_with fail
      have e1 : (x : Int) / 4294967296 * 256 = ((x / 16777216 / 256 * 256 : Nat) : Int) := by omega
      have e2 : (x : Int) / 16777216 % 256 = ((x / 16777216 % 256 : Nat) : Int) := by omega
      have e3 := or8 (x / 16777216) (by omega)
      refine ⟨⟨5, by omega, by first | rfl | go_num, ?_, by first | rfl | trivial⟩, by simp [intOf]⟩
      (try simp only [Int.ediv_one])
      rw [e1, e2, e3]
      (try simp)
    · have hk1 := HL.out 5 _ rfl
      (try simp only [Nat.reducePow, Nat.reduceMul, Nat.reduceSub, Nat.add_zero] at hk1)
      go_wp2_with fail
      have e1 : (x : Int) / 16777216 * 256 = ((x / 65536 / 256 * 256 : Nat) : Int) := by omega
      have e2 : (x : Int) / 65536 % 256 = ((x / 65536 % 256 : Nat) : Int) := by omega
      have e3 := or8 (x / 65536) (by omega)
      refine ⟨⟨6, by omega, by first | rfl | go_num, ?_, by first | rfl | trivial⟩, by simp [intOf]⟩
      (try simp only [Int.ediv_one])
      rw [e1, e2, e3]
      (try simp)
    · have hk1 := HL.out 6 _ rfl
      (try simp only [Nat.reducePow, Nat.reduceMul, Nat.reduceSub, Nat.add_zero] at hk1)
      go_wp2_with fail
      have e1 : (x : Int) / 65536 * 256 = ((x / 256 / 256 * 256 : Nat) : Int) := by omega
      have e2 : (x : Int) / 256 % 256 = ((x / 256 % 256 : Nat) : Int) := by omega
      have e3 := or8 (x / 256) (by omega)
      refine ⟨⟨7, by omega, by first | rfl | go_num, ?_, by first | rfl | trivial⟩, by simp [intOf]⟩
      (try simp only [Int.ediv_one])
      rw [e1, e2, e3]
      (try simp)
    · have hk1 := HL.out 7 _ rfl
      (try simp only [Nat.reducePow, Nat.reduceMul, Nat.reduceSub, Nat.add_zero] at hk1)
      go_wp2_with fail
      have e1 : (x : Int) / 256 * 256 = ((x / 256 * 256 : Nat) : Int) := by omega
      have e2 : (x : Int) % 256 = ((x % 256 : Nat) : Int) := by omega
      have e3 := or8 (x) (by omega)
      refine ⟨⟨8, by omega, by first | rfl | go_num, ?_, by first | rfl | trivial⟩, by simp [intOf]⟩
      (try simp only [Int.ediv_one])
      rw [e1, e2, e3]
      (try simp)
    · by_cases hc8 : cap = 8
      · subst hc8
        have hL0 : L = [] := List.eq_nil_of_length_eq_zero (by omega)
        subst hL0
        have hfr := blk_free (i := 0) hb
        go_wp2_with fail
        go_ret
        refine ⟨by simp, ⟨hPr, o, 0, ?_, Nat.zero_le _, fun j x hj => by simp at hj⟩, (But.refl _ _).setCell _ _ (.inl (by simp))⟩
        rw [blk_set _ _ _ _ _ _ hb]
        rfl
      · have hfr := blk_free (i := 0) hb
        go_wp2_with fail
        go_ret
        refine ⟨by simp, ⟨hPr, o + 8, cap - 8, by rw [blk_set _ _ _ _ _ _ hb]; rfl, by omega, fun j y hj => ?_⟩, (But.refl _ _).setCell _ _ (.inl (by simp))⟩
        rw [World.cell?_setCell_far _ _ _ _ (fun e => hPr (by simpa using e.symm))]
        have h1 := HL.out (8 + j) y (by rw [List.getElem?_append_right (by rw [be8_len]; omega), be8_len]; simpa using hj)
        rwa [Nat.add_assoc]

set_option linter.unusedSimpArgs false in
set_option maxHeartbeats 1000000 in
set_option maxRecDepth 100000 in
theorem rdpart_any (r P x : Nat) (L : List Nat) (hx : x < 18446744073709551616) (hq : cn x = x) (w : World) (h : RD w r P (be8 x ++ L)) (hL : L.length ≤ 100000) :
    Calls Try.prog 109 #[.pointer (some ⟨r, 0, none⟩)] w fun e w' => e = .returned (.float .f64 x) ∧ RD w' r P L ∧ But [r] w w' := by
  go_enter Try.func109, Try.ntmps109
  go_wp2_with fail
  refine (rdnumber_any r P x L hx w h hL).mono ?_
  rintro e w1 ⟨rfl, hr1, hb1⟩
  obtain ⟨hPr, o, cap, hb, hc, hl⟩ := hr1
  have c1 : w1.cell? ⟨r, 1, none⟩ = some (.bool false) := by rw [cell_of_row w1 r 1 _ _ _ hb]; rfl
  have hfr := blk_free (i := 1) hb
  have HL := Lib.hid hl
  have n0 := ne_self hx
  have hbk := hb
  clear hl hb
  cases hn : nan x
  · rw [hn] at n0
    go_wp2_with fail
    go_ret
    refine ⟨rfl, ⟨hPr, o, cap, by rw [blk_set _ _ _ _ _ _ hbk]; rfl, hc, fun j y hj => ?_⟩, hb1.setCell _ _ (.inl (by simp))⟩
    rw [World.cell?_setCell_far _ _ _ _ (fun e => hPr (by simpa using e.symm))]
    exact HL.out j y hj
  · rw [hn] at n0
    have e : x = 9221120237041090561 := by rw [← hq, cn_nan hn]; rfl
    subst e
    go_wp2_with fail
    go_ret
    refine ⟨rfl, ⟨hPr, o, cap, by rw [blk_set _ _ _ _ _ _ hbk]; rfl, hc, fun j y hj => ?_⟩, hb1.setCell _ _ (.inl (by simp))⟩
    rw [World.cell?_setCell_far _ _ _ _ (fun e => hPr (by simpa using e.symm))]
    exact HL.out j y hj

set_option linter.unusedSimpArgs false in
set_option maxHeartbeats 1000000 in
set_option maxRecDepth 100000 in
theorem rdwhole_any (r P : Nat) (x : C) (L : List Nat) (hx : wf x) (hq : ccn x = x) (w : World) (h : RD w r P (be8 x.1 ++ (be8 x.2 ++ L))) (hL : L.length ≤ 90000) :
    Calls Try.prog 87 #[.pointer (some ⟨r, 0, none⟩)] w fun e w' => e = .returned (.complex .f64 x.1 x.2) ∧ RD w' r P L ∧ But [r] w w' := by
  obtain ⟨h1, h2⟩ := hx
  have q1 : cn x.1 = x.1 := congrArg Prod.fst hq
  have q2 : cn x.2 = x.2 := congrArg Prod.snd hq
  have Q1 := Lib.hid q1
  have Q2 := Lib.hid q2
  clear hq q1 q2
  go_enter Try.func87, Try.ntmps87
  go_wp2_with fail
  refine (rdpart_any r P x.1 _ h1 Q1.out w h (by rw [List.length_append, be8_len]; omega)).mono ?_
  rintro e w1 ⟨rfl, hr1, hb1⟩
  go_wp2_with fail
  refine (rdpart_any r P x.2 _ h2 Q2.out w1 hr1 (by omega)).mono ?_
  rintro e w2 ⟨rfl, hr2, hb2⟩
  go_wp2_with fail
  go_ret
  exact ⟨rfl, hr2, hb1.trans hb2⟩
