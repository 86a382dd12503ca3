/- Frames; what the listed variables hold; math/bits.TrailingZeros64. -/
import Derived.Test.YtnghppgpdeghfaaGreatDoorA1
import Derived.Test.YtnghppgpdeghfaaGreatDoorTx4
import Derived.Laws.OwnMore
import Derived.Laws.Rows
import Derived.Laws.AppendOwn
import Derived.OwnWalk
import Derived.Outline
namespace Go.Proofs.YtnghppgpdeghfaaGreatDoor
open Go.RowKit Go.Proofs.YtnghppgpdeghfaaGreatDoor.Fl Go.Proofs.YtnghppgpdeghfaaGreatDoor.Pt Go.Proofs.YtnghppgpdeghfaaGreatDoor.Tx

/-- Old memory is as it was, but for the blocks of the list. -/
structure But (qs : List Nat) (w w' : World) : Prop where
  os : w'.os = w.os
  tape : w'.tape = w.tape
  output : w'.output = w.output
  size : w.heap.size ≤ w'.heap.size
  block : ∀ k, k < w.heap.size → k ∉ qs → w'.heap[k]? = w.heap[k]?

section
variable {qs qs' : List Nat} {a b c w w' : World}
theorem But.refl (qs : List Nat) (w : World) : But qs w w := ⟨rfl, rfl, rfl, Nat.le_refl _, fun _ _ _ => rfl⟩
theorem But.trans (h : But qs a b) (k : But qs b c) : But qs a c :=
  ⟨k.os.trans h.os, k.tape.trans h.tape, k.output.trans h.output, Nat.le_trans h.size k.size, fun i hi hq => (k.block i (Nat.lt_of_lt_of_le hi h.size) hq).trans (h.block i hi hq)⟩
theorem But.weak (h : But qs a b) (hs : ∀ k, k < a.heap.size → k ∈ qs → k ∈ qs') : But qs' a b :=
  ⟨h.os, h.tape, h.output, h.size, fun i hi hq => h.block i hi fun hm => hq (hs i hi hm)⟩
theorem But.then (h : But qs a b) (k : But qs' b c) (hs : ∀ i, i < a.heap.size → i ∈ qs' → i ∈ qs) : But qs a c :=
  ⟨k.os.trans h.os, k.tape.trans h.tape, k.output.trans h.output, Nat.le_trans h.size k.size, fun i hi hq => (k.block i (Nat.lt_of_lt_of_le hi h.size) fun hm => hq (hs i hi hm)).trans (h.block i hi hq)⟩
theorem But.of_below (h : Below a.heap.size a b) : But qs a b := ⟨h.os, h.tape, h.output, h.size, fun i hi _ => h.block i hi⟩
theorem But.below (h : But [] a b) : Below a.heap.size a b := ⟨h.os, h.tape, h.output, h.size, fun i hi => h.block i hi (by simp)⟩
theorem But.thenB (h : But qs a b) (k : Below b.heap.size b c) : But qs a c := h.trans (But.of_below k)
theorem But.setCell (h : But qs a b) (p : Addr) (v : Value) (hp : p.block ∈ qs ∨ a.heap.size ≤ p.block) : But qs a (b.setCell p v) :=
  ⟨h.os, h.tape, h.output, by simpa [World.setCell] using h.size, fun i hi hq => (Below.heap_setCell b p v i (by rintro rfl; rcases hp with hp | hp; exact hq hp; omega)).trans (h.block i hi hq)⟩
theorem But.alloc (h : But qs a b) (o : Obj) : But qs a (b.alloc o) :=
  h.trans ⟨rfl, rfl, rfl, by simp, fun k hk _ => Below.heap_alloc b o k hk⟩
theorem But.drewN (h : But qs a b) (n : Nat) : But qs a (b.drewN n) := ⟨h.os, h.tape, h.output, h.size, h.block⟩
theorem But.drew (h : But qs a b) : But qs a b.drew := ⟨h.os, h.tape, h.output, h.size, h.block⟩
theorem But.grown (h : But qs a b) {row : Option Nat} (hg : b.grownBy c row) (hr : ∀ g, row = some g → g ∈ qs ∨ a.heap.size ≤ g) : But qs a c :=
  ⟨hg.os.trans h.os, hg.tape.trans h.tape, hg.output.trans h.output, Nat.le_trans h.size hg.size, fun i hi hq => (hg.block i (Nat.lt_of_lt_of_le hi h.size) (by rintro rfl; rcases hr i rfl with hp | hp; exact hq hp; omega)).trans (h.block i hi hq)⟩
theorem But.heap (h : But qs w w') {k : Nat} {o : Obj} (hk : w.heap[k]? = some o) (hq : k ∉ qs) : w'.heap[k]? = some o :=
  (h.block k (Array.getElem?_eq_some_iff.1 hk).1 hq).trans hk
theorem But.cell (h : But qs w w') {p : Addr} {v : Value} (hp : w.cell? p = some v) (hq : p.block ∉ qs) : w'.cell? p = some v :=
  (World.cell?_of_block (w := w) (h.block p.block (World.block_lt_of_cell? w p hp) hq)).trans hp
theorem But.frozen (h : But qs w w') {p : Addr} {v : Value} (hp : w.cell? p = some v) (hq : p.block ∉ qs) : w'.frozen? p = w.frozen? p :=
  World.frozen?_of_block (w := w) (h.block p.block (World.block_lt_of_cell? w p hp) hq)
end

theorem blk_set (w : World) (c i : Nat) (cs : Array Value) (t : TypeId) (v : Value) (h : w.heap[c]? = some (.cells cs t (0, 0))) : (w.setCell ⟨c, i, none⟩ v).heap[c]? = some (.cells (cs.setIfInBounds i v) t (0, 0)) := by
  simp [World.setCell, Array.getElem?_modify, h]
theorem blk_free {w : World} {c i : Nat} {cs : Array Value} {t : TypeId} (h : w.heap[c]? = some (.cells cs t (0, 0))) : w.frozen? ⟨c, i, none⟩ = false := by simp [World.frozen?, h]

def tab64 : List Int := [0, 1, 56, 2, 57, 49, 28, 3, 61, 58, 42, 50, 38, 29, 17, 4, 62, 47, 59, 36, 45, 43, 51, 22, 53, 39, 33, 30, 24, 18, 12, 5, 63, 55, 48, 27, 60, 41, 37, 16, 46, 35, 44, 21, 52, 32, 23, 11, 54, 26, 40, 15, 34, 20, 31, 10, 25, 14, 19, 9, 13, 8, 7, 6]
/-- What the listed variables hold. -/
structure Gl (w : World) : Prop where
  t64 : Lib.TabIs Tryz.prog w "math/bits.deBruijn64tab" .u8 tab64
  t10 : Lib.TabIs Tryz.prog w "internal/strconv.uint64pow10" .u64 Lib.pow10Tab
  syn : ∃ te pe, w.cell? ⟨3, 0, none⟩ = some (.iface te pe)
  rng : ∃ te pe, w.cell? ⟨4, 0, none⟩ = some (.iface te pe)
  max : ∃ m : Int, w.cell? ⟨5, 0, none⟩ = some (.int .i64 m)
  size : 15 ≤ w.heap.size
theorem tab_keep {w w' : World} {n : String} {g : Nat} {k : IntKind} {zs : List Int} (hg : Tryz.prog.globalNamed n = some g) (h : Lib.TabIs Tryz.prog w n k zs) (hb : w'.heap[g]? = w.heap[g]?) : Lib.TabIs Tryz.prog w' n k zs := by
  unfold Lib.TabIs World.var? at *
  rw [hg] at h ⊢
  simp only [Option.bind_some] at h ⊢
  rw [hb]; exact h
theorem Gl.keep {w w' : World} {qs : List Nat} (h : Gl w) (hb : But qs w w') (hq : ∀ q ∈ qs, 15 ≤ q) : Gl w' := by
  have hs := h.size
  have hn : ∀ g, g < 15 → g ∉ qs := fun g hg hm => by have := hq g hm; omega
  refine ⟨tab_keep (g := 1) (by kernel_rfl) h.t64 (hb.block 1 (by omega) (hn 1 (by omega))), tab_keep (g := 2) (by kernel_rfl) h.t10 (hb.block 2 (by omega) (hn 2 (by omega))), ?_, ?_, ?_, Nat.le_trans hs hb.size⟩
  · obtain ⟨te, pe, e⟩ := h.syn; exact ⟨te, pe, hb.cell e (hn 3 (by omega))⟩
  · obtain ⟨te, pe, e⟩ := h.rng; exact ⟨te, pe, hb.cell e (hn 4 (by omega))⟩
  · obtain ⟨m, e⟩ := h.max; exact ⟨m, hb.cell e (hn 5 (by omega))⟩

theorem and_dbl (a b : Nat) : (2 * a) &&& (2 * b) = 2 * (a &&& b) := by
  apply Nat.eq_of_testBit_eq
  intro i
  cases i with
  | zero => simp
  | succ i =>
    have e : ∀ c : Nat, 2 * c / 2 = c := fun c => by omega
    rw [Nat.testBit_and, Nat.testBit_succ, Nat.testBit_succ, Nat.testBit_succ, e, e, e, Nat.testBit_and]
theorem and_odd (a b : Nat) : (2 * a + 1) &&& (2 * b + 1) = 2 * (a &&& b) + 1 := by
  apply Nat.eq_of_testBit_eq
  intro i
  have e : ∀ c : Nat, (2 * c + 1) / 2 = c := fun c => by omega
  cases i with
  | zero => simp
  | succ i => rw [Nat.testBit_and, Nat.testBit_succ, Nat.testBit_succ, Nat.testBit_succ, e, e, e, Nat.testBit_and]
theorem and_comp (n a : Nat) (h : a < 2 ^ n) : a &&& (2 ^ n - (a + 1)) = 0 := by
  apply Nat.eq_of_testBit_eq
  intro i
  rw [Nat.testBit_and, Nat.testBit_two_pow_sub_succ h]
  cases a.testBit i <;> simp
theorem low_bit : ∀ (k m : Nat), 0 < m → m < 2 ^ k → m &&& (2 ^ k - m) = 2 ^ tz m
  | 0, m, h0, h => by simp at h; omega
  | k + 1, m, h0, h => by
    rw [Nat.pow_succ] at h ⊢
    by_cases ho : m % 2 = 1
    · have e1 : m = 2 * (m / 2) + 1 := by omega
      have e2 : 2 ^ k * 2 - m = 2 * (2 ^ k - (m / 2 + 1)) + 1 := by omega
      have e3 : m / 2 < 2 ^ k := by omega
      rw [e2]
      have e4 : m &&& (2 * (2 ^ k - (m / 2 + 1)) + 1) = (2 * (m / 2) + 1) &&& (2 * (2 ^ k - (m / 2 + 1)) + 1) := by rw [← e1]
      rw [e4, and_odd, and_comp k _ e3, tz, dif_pos (Or.inl ho)]
    · have e1 : m = 2 * (m / 2) := by omega
      have e2 : 2 ^ k * 2 - m = 2 * (2 ^ k - m / 2) := by omega
      have e4 : m &&& (2 * (2 ^ k - m / 2)) = (2 * (m / 2)) &&& (2 * (2 ^ k - m / 2)) := by rw [← e1]
      have e5 : tz m = tz (m / 2) + 1 := by rw [tz, dif_neg (fun h' => by rcases h' with h' | h' <;> omega)]
      rw [e2, e4, and_dbl, low_bit k (m / 2) (by omega) (by omega), e5, Nat.pow_succ, Nat.mul_comm]
theorem tab_at : ∀ t : Nat, t < 64 → tab64[(2 ^ t * 285870213051353865 % 18446744073709551616) / 288230376151711744]? = some (t : Int) := by decide +kernel
theorem tz_lt {m : Nat} (h0 : 0 < m) (h : m < 18446744073709551616) : tz m < 64 := by
  obtain ⟨h1, h2⟩ := tz_spec m (by omega)
  refine Classical.byContradiction fun hc => ?_
  have h3 : 2 ^ 64 ≤ 2 ^ tz m := Nat.pow_le_pow_right (by omega) (by omega)
  have h4 : 0 < m / 2 ^ tz m := Nat.pos_of_ne_zero fun h => by rw [h] at h2; simp at h2
  have h5 : 2 ^ tz m ≤ m / 2 ^ tz m * 2 ^ tz m := Nat.le_mul_of_pos_left _ h4
  rw [h1] at h5
  have : (2 : Nat) ^ 64 = 18446744073709551616 := by decide
  omega
theorem and_nat (a b : Nat) (ha : a < 18446744073709551616) (hb : b < 18446744073709551616) : bits .and .u64 (a : Int) (b : Int) = ((a &&& b : Nat) : Int) := bits_and_nat a b ha hb

theorem tz_names (m : Nat) (h0 : 0 < m) (h : m < 18446744073709551616) : ∃ (nm p r q : Nat), IntKind.u64.wrap (-(m : Int)) = (nm : Int) ∧ bits .and .u64 (m : Int) (nm : Int) = (p : Int) ∧ IntKind.u64.wrap ((p : Int) * 285870213051353865) = (r : Int) ∧ (r : Int) / 288230376151711744 = (q : Int) ∧ q < 64 ∧ tab64.getD q 0 = (tz m : Int) ∧ q < tab64.length := by
  have hlt := tz_lt h0 h
  have h1 := low_bit 64 m h0 (by simpa using h)
  rw [show (2 : Nat) ^ 64 = 18446744073709551616 by decide] at h1
  have hn : IntKind.u64.wrap (-(m : Int)) = ((18446744073709551616 - m : Nat) : Int) := by rw [IntKind.wrap_u64]; omega
  have hand : bits .and .u64 (m : Int) ((18446744073709551616 - m : Nat) : Int) = ((2 ^ tz m : Nat) : Int) := by rw [and_nat _ _ h (by omega), h1]
  have ht := tab_at (tz m) hlt
  refine ⟨_, _, 2 ^ tz m * 285870213051353865 % 18446744073709551616, _, hn, hand, ?_, (Int.natCast_ediv _ 288230376151711744).symm, ?_, ?_, ?_⟩
  · rw [IntKind.wrap_u64]; omega
  · have : 2 ^ tz m * 285870213051353865 % 18446744073709551616 < 18446744073709551616 := Nat.mod_lt _ (by decide)
    omega
  · rw [List.getD_eq_getElem?_getD, ht]; rfl
  · exact (List.getElem?_eq_some_iff.1 ht).1
set_option maxRecDepth 100000 in
theorem tz_walk (m nm p r q t : Nat) (w : World) (h1 : IntKind.u64.wrap (-(m : Int)) = (nm : Int)) (h2 : bits .and .u64 (m : Int) (nm : Int) = (p : Int)) (h3 : IntKind.u64.wrap ((p : Int) * 285870213051353865) = (r : Int)) (h4 : (r : Int) / 288230376151711744 = (q : Int)) (h5 : q < 64) (hc : w.cell? ⟨1, q, none⟩ = some (.int .u8 (t : Int))) (g0 : ((m : Int) == 0) = false) (hwt : wrap64 (t : Int) = t) : Calls Tryz.prog 55 #[.int .u64 m] w fun e w' => e = .returned (.int .i64 (t : Nat)) ∧ w' = w := by
  go_enter Tryz.func55, Tryz.ntmps55
  go_wp2
  go_ret
  exact ⟨by simp [hwt], rfl⟩
theorem tz_any (m : Nat) (h0 : 0 < m) (h : m < 18446744073709551616) (w : World) (hg : Gl w) : Calls Tryz.prog 55 #[.int .u64 m] w fun e w' => e = .returned (.int .i64 (tz m : Nat)) ∧ w' = w := by
  obtain ⟨nm, p, r, q, h1, h2, h3, h4, h5, h6, h7⟩ := tz_names m h0 h
  have hcell := hg.t64.cell (g := 1) (by kernel_rfl) q h7
  rw [h6] at hcell
  have hlt := tz_lt h0 h
  exact tz_walk m nm p r q (tz m) w h1 h2 h3 h4 h5 hcell (by simp; omega) (by unfold wrap64; omega)
end Go.Proofs.YtnghppgpdeghfaaGreatDoor
