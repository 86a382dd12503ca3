/- stream.parts. -/
import Derived.Test.YtnmpofjegepmaaaT5
namespace Go.Proofs.Ytnmpofjegepmaaa
open Go.RowKit Go.Proofs.Ytnmpofjegepmaaa.Fl Go.Proofs.Ytnmpofjegepmaaa.Pt

/-- The bytes of complex numbers. -/
def pbs (xs : Nat → C) : Nat → List Nat
  | 0 => []
  | m + 1 => pbs xs m ++ (be8 (xs m).1 ++ be8 (xs m).2)
theorem pbs_len (xs : Nat → C) (m : Nat) : (pbs xs m).length = m * 16 := by
  induction m with
  | zero => rfl
  | succ m ih => rw [pbs]; simp [ih, be8]; omega
/-- What the inner loop has written. -/
def inn (x : C) (j : Nat) : List Nat := if j = 0 then [] else if j = 1 then be8 x.1 else be8 x.1 ++ be8 x.2
theorem inn_len (x : C) (j : Nat) : (inn x j).length ≤ 16 := by unfold inn; split <;> (try split) <;> simp [be8]
theorem own_mem {v u : Value} {w : World} (h : ∀ g, u.ownBlock = some g → v.ownBlock = some g ∨ w.heap.size ≤ g) {g : Nat} (hg : g ∈ u.ownBlock.toList) (hl : g < w.heap.size) : g ∈ v.ownBlock.toList := by
  have h1 : u.ownBlock = some g := by simpa using hg
  rcases h g h1 with h2 | h2
  · rw [h2]; simp
  · omega
theorem own_trans {v u v' : Value} {w wr : World} (h : ∀ g, u.ownBlock = some g → v.ownBlock = some g ∨ w.heap.size ≤ g) (h' : ∀ g, v'.ownBlock = some g → u.ownBlock = some g ∨ wr.heap.size ≤ g) (hs : w.heap.size ≤ wr.heap.size) : ∀ g, v'.ownBlock = some g → v.ownBlock = some g ∨ w.heap.size ≤ g := by
  intro g hg
  rcases h' g hg with h1 | h1
  · exact h g h1
  · exact .inr (by omega)

set_option linter.unusedSimpArgs false in
set_option maxHeartbeats 1000000 in
set_option maxRecDepth 100000 in
theorem parts_any (B : Nat) (v : Value) (L : List Nat) (A : Option Addr) (lb lo m mk : Nat) (hA : 0 < m → A = some ⟨lb, lo, none⟩) (hm : m ≤ 100) (xs : Nat → C) (w : World) (hBw : B ≤ w.heap.size) (hxs : RC w lb lo m xs) (hlv : v.ownBlock ≠ some lb) (hown : OB w B v L) (hL : L.length + m * 16 ≤ 50000) :
    Calls Try.prog 83 #[v, .slice A m mk] w fun e w' => ∃ v', e = .returned v' ∧ OB w' B v' (L ++ pbs xs m) ∧ But v.ownBlock.toList w w' ∧ (v ≠ .slice none 0 0 → v' ≠ .slice none 0 0) ∧ (∀ g, v'.ownBlock = some g → v.ownBlock = some g ∨ w.heap.size ≤ g) := by
  have HA := Lib.hid hA
  clear hA
  go_enter Try.func83, Try.ntmps83
  go_wp2_with fail
  go_loopw [0, 12] (fun vv i wr => ∃ k : Nat, k ≤ m ∧ i = .int .i64 k ∧ OB wr B vv (L ++ pbs xs k) ∧ But v.ownBlock.toList w wr ∧ (v ≠ .slice none 0 0 → vv ≠ .slice none 0 0) ∧ (∀ g, vv.ownBlock = some g → v.ownBlock = some g ∨ w.heap.size ≤ g) ∧ w.heap.size ≤ wr.heap.size) (fun _ i _ => m - (intOf i).toNat)
  case atStart => exact ⟨0, Nat.zero_le _, rfl, by simpa [pbs] using hown, But.refl _ _, id, fun g hg => .inl hg, Nat.le_refl _⟩
  case round =>
    obtain ⟨k, hk, rfl, hob, hbr, hnn, how, hsz⟩ := hrel
    by_cases hlt : k < m
    · obtain rfl := HA.out (by omega)
      obtain ⟨s, hs, ws, es⟩ := hxs.keep hbr (by simpa using hlv) k hlt
      unfold V at hs
      obtain ⟨l1, l2⟩ := ws
      have ES := Lib.hid es
      have i0 : ∀ W, (Instr.index 139 (.agg #[.float .f64 s.1, .float .f64 s.2]) (.int .i64 0)).run Try.prog W = .ok (.float .f64 s.1) W := fun _ => by kernel_rfl
      have i1 : ∀ W, (Instr.index 139 (.agg #[.float .f64 s.1, .float .f64 s.2]) (.int .i64 1)).run Try.prog W = .ok (.float .f64 s.2) W := fun _ => by kernel_rfl
      have n0 := ne_self l1
      have n1 := ne_self l2
      have t1 : (k : Int) < m := by omega
      clear es
      go_wp2_with fail
      have hob0 := hob
      have hbr0 := hbr
      have hnn0 := hnn
      have how0 := how
      clear hob hbr hnn how
      go_loopw [0, 21] (fun vv i wx => ∃ j : Nat, j ≤ 2 ∧ i = .int .i64 j ∧ OB wx B vv ((L ++ pbs xs k) ++ inn (xs k) j) ∧ But v.ownBlock.toList w wx ∧ (v ≠ .slice none 0 0 → vv ≠ .slice none 0 0) ∧ (∀ g, vv.ownBlock = some g → v.ownBlock = some g ∨ w.heap.size ≤ g) ∧ w.heap.size ≤ wx.heap.size) (fun _ i _ => 2 - (intOf i).toNat)
      case atStart => exact ⟨0, by omega, rfl, by simpa [inn] using hob0, hbr0, hnn0, how0, hsz⟩
      case round =>
        obtain ⟨j, hj, rfl, hob, hbr, hnn, how, hsz2⟩ := hrel
        have hBr : B ≤ wr.heap.size := by omega
        have hjc : j = 0 ∨ j = 1 ∨ j = 2 := by omega
        rcases hjc with rfl | rfl | rfl
        · cases hn : nan s.1
          rotate_left
          · -- part 0, is it no number: true
            have hbt : cn s.1 = 9221120237041090561 := cn_nan hn
            rw [hn] at n0
            have hx' : (xs k).1 = cn s.1 := by rw [← ES.out]; rfl
            have HX' := Lib.hid (hx'.trans hbt)
            clear hx' hbt hn
            go_wp2_with (go_at_call 84; refine (number_any B u0 _ 9221120237041090561 _ hBr hob (by have h := inn_len (xs k) 0; simp only [List.length_append, pbs_len]; omega)).mono ?_; rintro e w' ⟨v', rfl, hob', hb', hnn', how'⟩)
            go_roundw
            case rel =>
              refine ⟨1, by omega, by first | rfl | go_num, ?_, hbr.then hb' (fun g hl hg => own_mem how hg hl), fun h => hnn' (hnn h), own_trans how how' hbr.size, by have := hb'.size; omega⟩
              have := hob'
              rw [← HX'.out] at this
              simpa [inn] using this
            case measure => simp [intOf]
          · -- part 0, is it no number: false
            have hbt : cn s.1 = s.1 := cn_num hn
            rw [hn] at n0
            have hx' : (xs k).1 = cn s.1 := by rw [← ES.out]; rfl
            have HX' := Lib.hid (hx'.trans hbt)
            clear hx' hbt hn
            go_wp2_with (go_at_call 84; refine (number_any B u0 _ s.1 _ hBr hob (by have h := inn_len (xs k) 0; simp only [List.length_append, pbs_len]; omega)).mono ?_; rintro e w' ⟨v', rfl, hob', hb', hnn', how'⟩)
            go_roundw
            case rel =>
              refine ⟨1, by omega, by first | rfl | go_num, ?_, hbr.then hb' (fun g hl hg => own_mem how hg hl), fun h => hnn' (hnn h), own_trans how how' hbr.size, by have := hb'.size; omega⟩
              have := hob'
              rw [← HX'.out] at this
              simpa [inn] using this
            case measure => simp [intOf]
        · cases hn : nan s.2
          rotate_left
          · -- part 1, is it no number: true
            have hbt : cn s.2 = 9221120237041090561 := cn_nan hn
            rw [hn] at n1
            have hx' : (xs k).2 = cn s.2 := by rw [← ES.out]; rfl
            have HX' := Lib.hid (hx'.trans hbt)
            clear hx' hbt hn
            go_wp2_with (go_at_call 84; refine (number_any B u0 _ 9221120237041090561 _ hBr hob (by have h := inn_len (xs k) 1; simp only [List.length_append, pbs_len]; omega)).mono ?_; rintro e w' ⟨v', rfl, hob', hb', hnn', how'⟩)
            go_roundw
            case rel =>
              refine ⟨2, by omega, by first | rfl | go_num, ?_, hbr.then hb' (fun g hl hg => own_mem how hg hl), fun h => hnn' (hnn h), own_trans how how' hbr.size, by have := hb'.size; omega⟩
              have := hob'
              rw [← HX'.out] at this
              simpa [inn] using this
            case measure => simp [intOf]
          · -- part 1, is it no number: false
            have hbt : cn s.2 = s.2 := cn_num hn
            rw [hn] at n1
            have hx' : (xs k).2 = cn s.2 := by rw [← ES.out]; rfl
            have HX' := Lib.hid (hx'.trans hbt)
            clear hx' hbt hn
            go_wp2_with (go_at_call 84; refine (number_any B u0 _ s.2 _ hBr hob (by have h := inn_len (xs k) 1; simp only [List.length_append, pbs_len]; omega)).mono ?_; rintro e w' ⟨v', rfl, hob', hb', hnn', how'⟩)
            go_roundw
            case rel =>
              refine ⟨2, by omega, by first | rfl | go_num, ?_, hbr.then hb' (fun g hl hg => own_mem how hg hl), fun h => hnn' (hnn h), own_trans how how' hbr.size, by have := hb'.size; omega⟩
              have := hob'
              rw [← HX'.out] at this
              simpa [inn] using this
            case measure => simp [intOf]
        · go_wp2_with fail
          exact ⟨⟨k + 1, by omega, by go_num, by rw [pbs, ← List.append_assoc]; exact hob, hbr, hnn, how, hsz2⟩, by simp [intOf]; omega⟩
    · obtain rfl : m = k := by omega
      go_wp2_with fail
      go_ret
      exact ⟨_, rfl, hob, hbr, hnn, how⟩
end Go.Proofs.Ytnmpofjegepmaaa
