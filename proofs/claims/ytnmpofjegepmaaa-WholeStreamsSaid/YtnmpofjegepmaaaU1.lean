/- (*Stream).Seq and the function that it hands back. -/
import Derived.Test.YtnmpofjegepmaaaT2
import Derived.Test.YtnmpofjegepmaaaAp
import Derived.RangeFuncNested
import Derived.RangeFuncBound
import Derived.RangeFuncCalls
import Derived.RangeFuncLeaves
import Derived.Shelf.Abstract
import Derived.Shelf.RegionOpen
import Derived.WalkKit
import Derived.OwnWalkIn
import Derived.TacticsInMore
import Derived.LoopNIn
import Derived.LoopIn
namespace Go.Proofs.Ytnmpofjegepmaaa
open Go.RowKit Go.Shelf Go.Proofs.Ytnmpofjegepmaaa.Fl Go.Proofs.Ytnmpofjegepmaaa.Pt

theorem or_slice2 {w : World} {b t k : Nat} {v : Value} {xs : Nat → C} (h : OR w b t 1 v (0 + k) xs) (hk : v ≠ .slice none 0 0) : ∃ g c, v = .slice (some ⟨g, 0, none⟩) k c ∧ b ≤ g ∧ RC w g 0 k xs := by
  rcases h.form with ⟨h0, _⟩ | ⟨g, c, h0, h1, _, h2⟩
  · exact absurd h0 hk
  · rw [Nat.zero_add] at h0 h2
    rw [Nat.mul_one] at h2
    exact ⟨g, c, h0, h1, h2.rc⟩

set_option linter.unusedSimpArgs false in
set_option maxHeartbeats 1000000 in
set_option maxRecDepth 100000 in
theorem sseq_any (d lb lo m mk : Nat) (A : Option Addr) (hA : 0 < m → A = some ⟨lb, lo, none⟩) (hm : m ≤ 1000000) (xs : Nat → C) (w : World) (hxs : RC w lb lo m xs) :
    Calls Try.prog 43 #[.pointer (some ⟨d, 0, none⟩), .slice A m mk] w fun e w' => ∃ bS bL LL kk, e = .returned (.func (.func 85) #[] #[.pointer (some ⟨bS, 0, none⟩), .pointer (some ⟨bL, 0, none⟩)]) ∧ w.heap.size ≤ bS ∧ w.heap.size ≤ bL ∧ w.heap.size ≤ LL ∧ w'.cell? ⟨bS, 0, none⟩ = some (.pointer (some ⟨d, 0, none⟩)) ∧ w'.cell? ⟨bL, 0, none⟩ = some (.slice (some ⟨LL, 0, none⟩) m kk) ∧ RC w' LL 0 m xs ∧ But [] w w' ∧ LL < w'.heap.size := by
  obtain ⟨w1, hw1, hb1, s0, l0⟩ : ∃ w1, (w.alloc (.cells #[.pointer (some ⟨d, 0, none⟩)] 74)).alloc (.cells #[.slice A m mk] 34) = w1 ∧ But [] w w1 ∧ w1.heap[w.heap.size]? = some (.cells #[.pointer (some ⟨d, 0, none⟩)] 74 (0, 0)) ∧ w1.heap[w.heap.size + 1]? = some (.cells #[.slice A m mk] 34 (0, 0)) :=
    ⟨_, rfl, ((But.refl _ _).alloc _).alloc _, (Below.heap_alloc _ _ _ (by simp)).trans (heap_alloc_new w _), by have := heap_alloc_new (w.alloc (.cells #[.pointer (some ⟨d, 0, none⟩)] 74)) (.cells #[.slice A m mk] 34); simpa using this⟩
  have HA := Lib.hid hA
  have l1 : w1.cell? ⟨w.heap.size + 1, 0, none⟩ = some (.slice A m mk) := by rw [cell_of_row _ _ _ _ _ _ l0]; rfl
  have hsz : w.heap.size + 1 < w1.heap.size := (Array.getElem?_eq_some_iff.1 l0).1
  have HS0 := Lib.hid s0
  have HL0 := Lib.hid l0
  clear hA s0 l0
  have hx1 := hxs.keep hb1 (by simp)
  go_enter Try.func43, Try.ntmps43
  have l2 := ((But.refl [] w1).alloc (.cells #[] 25)).cell l1 (by simp)
  go_wp2_with (at_builtin; refine wpList_append_rc _ rfl _ _ _ rfl w1.heap.size 25 _ 1 16 Try.underlying34 Try.info25 rfl (by omega) (.slice (some ⟨w1.heap.size, 0, none⟩) 0 0) 0 (fun _ => Z0) rfl (OR.empty w1 25 1 _) A lb lo m mk xs rfl HA.out (by rw [Nat.mul_one]; exact hx1.keep ((But.refl [] w1).alloc _) (by simp)) (by omega) (by omega) (by simp) ?_; intro v2 w2 hor2 hgr2 hob2 hnn2; have hb2 : But [] w1 w2 := ((But.refl [] w1).alloc _).grown hgr2 (fun g hg => by { simp [Value.ownBlock] at hg; exact .inr (by omega) }); have hf2 := blk_free (i := 0) (hb2.heap HL0.out (by simp)); have l3 := hb2.cell l1 (by simp); obtain ⟨LL, kk, rfl, hLL, hocL⟩ := or_slice2 hor2 (hnn2 (by simp)))
  go_ret
  have hb3 : But [w.heap.size + 1] w2 (w2.setCell ⟨w.heap.size + 1, 0, none⟩ (.slice (some ⟨LL, 0, none⟩) m kk)) := (But.refl _ _).setCell _ _ (.inl (by simp))
  refine ⟨w.heap.size, w.heap.size + 1, LL, kk, rfl, Nat.le_refl _, by omega, by omega, ?_, ?_, ?_, ?_, ?_⟩
  · exact (cell_of_row _ _ _ _ _ _ (hb3.heap (hb2.heap HS0.out (by simp)) (by simp))).trans rfl
  · rw [cell_of_row _ _ _ _ _ _ (blk_set _ _ _ _ _ _ (hb2.heap HL0.out (by simp)))]; rfl
  · exact (hocL.keep hb3 (by simp; omega)).congr (fun j hj => by rw [Nat.zero_mul, cat_zero])
  · exact (hb1.trans hb2).then hb3 (fun i hi hm => by simp at hm; omega)
  · exact Nat.lt_of_lt_of_le (hor2.lt LL (by simp [Value.ownBlock])).2 hb3.size

/-- A stream between two rounds: k samples have come. -/
def Stk (W : World) (d p q n : Nat) (f c m : Bool) (at_ ch : Nat) (g : C) (Sc St xs : Nat → C) (k : Nat) : Prop :=
  Stm W d p q n f c m (cnt at_ k) (cnt ch (qNs f c m n g Sc St xs k)) g Sc (qSs f c m n g Sc St xs k)
theorem Stm.same {w w' : World} {d p q n : Nat} {f c m : Bool} {at_ ch : Nat} {g : C} {Sc St : Nat → C} (h : Stm w d p q n f c m at_ ch g Sc St) (h1 : w'.heap[d]? = w.heap[d]?) (h2 : w'.heap[p]? = w.heap[p]?) (h3 : w'.heap[q]? = w.heap[q]?) (h4 : w.heap.size ≤ w'.heap.size) : Stm w' d p q n f c m at_ ch g Sc St := by
  obtain ⟨gr, k1, k2, hb, r⟩ := h.blk
  refine ⟨h.n16, ⟨gr, k1, k2, h1.trans hb, r⟩, fun j hj => ?_, ?_, Nat.lt_of_lt_of_le h.pl h4, h.ne⟩
  · rw [World.cell?_of_block (w := w) (a := ⟨p, 0 + j, none⟩) h2]
    exact h.sec j hj
  · obtain ⟨cs, e1, e2⟩ := h.sta
    exact ⟨cs, h3.trans e1, e2⟩

set_option linter.unusedSimpArgs false in
set_option maxHeartbeats 1000000 in
set_option maxRecDepth 100000 in
theorem seq1_in (F : Fence) (N : Nat) (h85 : F.fn 85) (h86 : F.fn 86) (hro : F.round = none) (hN : 2 ≤ N) (hlift : ∀ f a w R, Calls Try.prog f a w R → ∀ k, CallsIn F k Try.prog f a w R)
    (l d p q n m bS bL LL kk : Nat) (f c mu : Bool) (at_ ch : Nat) (hat : at_ < 18446744073709551616) (hch : ch < 18446744073709551616) (g : C) (Sc St xs : Nat → C) (hm : m ≤ 1000000) (J : Nat → World → Prop)
    (hJ : ∀ k A B, J k A → But [d, q] A B → J k B)
    (hY : ∀ (k : Nat) (a : C) W1, J k W1 → k < m → wf a → ccn a = qYs f c mu n g Sc St xs k → YieldAt F (N - 1) Try.prog l #[.int .i64 (k : Int), .complex .f64 a.1 a.2] W1 fun e W' => e = .returned (.bool true) ∧ J (k + 1) W' ∧ (∀ i, i ∈ [d, p, q, bS, bL, LL] → W'.heap[i]? = W1.heap[i]?) ∧ W1.heap.size ≤ W'.heap.size)
    (W : World) (hst : Stm W d p q n f c mu at_ ch g Sc St) (hS : W.cell? ⟨bS, 0, none⟩ = some (.pointer (some ⟨d, 0, none⟩))) (hL : W.cell? ⟨bL, 0, none⟩ = some (.slice (some ⟨LL, 0, none⟩) m kk)) (hxs : RC W LL 0 m xs)
    (hne : (bS ≠ d ∧ bS ≠ q) ∧ (bL ≠ d ∧ bL ≠ q) ∧ LL ≠ d ∧ LL ≠ q) (h0 : J 0 W) :
    CallsIn F N Try.prog 85 #[.func (.yield l) #[] #[], .pointer (some ⟨bS, 0, none⟩), .pointer (some ⟨bL, 0, none⟩)] W fun e W' => (∃ v, e = .returned v) ∧ J m W' ∧ Stk W' d p q n f c mu at_ ch g Sc St xs m := by
  obtain ⟨⟨n1, n2⟩, ⟨n3, n4⟩, n5, n6⟩ := hne
  have hN1 : 1 ≤ N := by omega
  have hN2 : 1 ≤ N - 1 := by omega
  have HJ := Lib.hid hJ
  have HY := Lib.hid hY
  have HLI := Lib.hid hlift
  clear hJ hY hlift
  refine callsIn_of_wp Try.func85 rfl h85 ?_ hro
  simp only [Try.ntmps85, List.size_toArray, List.length_cons, List.length_nil, Nat.reduceAdd, Nat.reduceSub, Array.replicate_succ, Array.replicate_zero, List.push_toArray, List.append_toArray, List.nil_append, List.cons_append]
  gi_wp2
  gi_loopw [10] (fun i wr => ∃ k : Nat, k ≤ m ∧ i = .int .i64 k ∧ Stk wr d p q n f c mu at_ ch g Sc St xs k ∧ J k wr ∧ wr.cell? ⟨bS, 0, none⟩ = some (.pointer (some ⟨d, 0, none⟩)) ∧ RC wr LL 0 m xs) (fun i _ => m - (intOf i).toNat)
  case atStart => exact ⟨0, Nat.zero_le _, rfl, by unfold Stk; rw [cnt_zero hat, show qNs f c mu n g Sc St xs 0 = 0 from rfl, cnt_zero hch]; exact hst, h0, hS, hxs⟩
  case round =>
    obtain ⟨k, hk, rfl, hs, hj, hb, hx⟩ := hrel
    by_cases hlt : k < m
    · obtain ⟨x, hxc, hxw, hxe⟩ := hx k hlt
      simp only [Nat.zero_add] at hxc
      unfold V at hxc
      have t1 : (k : Int) < m := by omega
      gi_wp2_with (gi_at_call 86; refine (HLI.out _ _ _ _ (sstep_any d p q n f c mu (cnt at_ k) (cnt ch (qNs f c mu n g Sc St xs k)) (cnt_lt _ _) g (xs k) x hxe Sc (qSs f c mu n g Sc St xs k) wr hs) _).mono ?_; rintro e w5 ⟨y, rfl, hyw, hye, hby, hsy⟩; obtain ⟨fn, tmps, assign, body, hy, hR⟩ := HY.out k y w5 (HJ.out _ _ _ hj hby) hlt hyw hye)
      refine hR.mono ?_
      rintro e w6 ⟨rfl, hj6, hsm, hsz⟩
      have hsk : Stk w5 d p q n f c mu at_ ch g Sc St xs (k + 1) := by
        unfold Stk
        rw [← cnt_add at_ k 1]
        have h1 : qNs f c mu n g Sc St xs (k + 1) = qNs f c mu n g Sc St xs k + qN f c mu g Sc (qSs f c mu n g Sc St xs k) (xs k) n := rfl
        rw [h1, ← cnt_add]
        exact hsy
      have hs6 : Stk w6 d p q n f c mu at_ ch g Sc St xs (k + 1) := Stm.same hsk (hsm d (by simp)) (hsm p (by simp)) (hsm q (by simp)) hsz
      have hb5 := hby.cell hb (by simp; omega)
      have hx5 := hx.keep hby (by simp; omega)
      have hb6 : w6.cell? ⟨bS, 0, none⟩ = some (.pointer (some ⟨d, 0, none⟩)) := (World.cell?_of_block (w := w5) (a := ⟨bS, 0, none⟩) (hsm bS (by simp))).trans hb5
      have hx6 : RC w6 LL 0 m xs := fun j hj => by
        rw [World.cell?_of_block (w := w5) (a := ⟨LL, 0 + j, none⟩) (hsm LL (by simp))]
        exact hx5 j hj
      gi_wp2
      go_roundw
      case rel => exact ⟨k + 1, by omega, by go_num, hs6, hj6, hb6, hx6⟩
      case measure => simp [intOf]; omega
    · obtain rfl : m = k := by omega
      gi_wp2
      go_end0
      exact ⟨⟨_, rfl⟩, hj, hs⟩
end Go.Proofs.Ytnmpofjegepmaaa
