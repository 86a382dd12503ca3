/- Frames; what the listed variables hold; math/bits.TrailingZeros64. strconv.FormatUint at base 16. text.float, text.Write: a float's text, a number's. text.Write; the reader's small steps. The reader's steps: fail, take, digits, signed, end. The reader's steps: digits. -/
import Derived.Test.YtnghppgpdeghfaaGreatDoorZf4
import Derived.Laws.OwnMore
import Derived.Laws.Rows
import Derived.Laws.AppendOwn
import Derived.OwnWalk
import Derived.Outline
import Derived.LoopTactic
import Derived.Lib.SlBytesConst
import Derived.Deep.QuietTactic
import Derived.BigQuiet
import Derived.Deep.CutRange
namespace Go.Proofs.YtnghppgpdeghfaaGreatDoor
open Go.RowKit Go.Proofs.YtnghppgpdeghfaaGreatDoor.Fl Go.Proofs.YtnghppgpdeghfaaGreatDoor.Pt Go.Proofs.YtnghppgpdeghfaaGreatDoor.Tx

/-- Old memory is as it was, but for the blocks of the list. -/
structure But (qs : List Nat) (w w' : World) : Prop where
  os : w'.os = w.os
  tape : w'.tape = w.tape
  output : w'.output = w.output
  size : w.heap.size ≤ w'.heap.size
  block : ∀ k, k < w.heap.size → k ∉ qs → w'.heap[k]? = w.heap[k]?

section
variable {qs qs' : List Nat} {a b c w w' : World}
theorem But.refl (qs : List Nat) (w : World) : But qs w w := ⟨rfl, rfl, rfl, Nat.le_refl _, fun _ _ _ => rfl⟩
theorem But.trans (h : But qs a b) (k : But qs b c) : But qs a c :=
  ⟨k.os.trans h.os, k.tape.trans h.tape, k.output.trans h.output, Nat.le_trans h.size k.size, fun i hi hq => (k.block i (Nat.lt_of_lt_of_le hi h.size) hq).trans (h.block i hi hq)⟩
theorem But.weak (h : But qs a b) (hs : ∀ k, k < a.heap.size → k ∈ qs → k ∈ qs') : But qs' a b :=
  ⟨h.os, h.tape, h.output, h.size, fun i hi hq => h.block i hi fun hm => hq (hs i hi hm)⟩
theorem But.then (h : But qs a b) (k : But qs' b c) (hs : ∀ i, i < a.heap.size → i ∈ qs' → i ∈ qs) : But qs a c :=
  ⟨k.os.trans h.os, k.tape.trans h.tape, k.output.trans h.output, Nat.le_trans h.size k.size, fun i hi hq => (k.block i (Nat.lt_of_lt_of_le hi h.size) fun hm => hq (hs i hi hm)).trans (h.block i hi hq)⟩
theorem But.of_below (h : Below a.heap.size a b) : But qs a b := ⟨h.os, h.tape, h.output, h.size, fun i hi _ => h.block i hi⟩
theorem But.below (h : But [] a b) : Below a.heap.size a b := ⟨h.os, h.tape, h.output, h.size, fun i hi => h.block i hi (by simp)⟩
theorem But.thenB (h : But qs a b) (k : Below b.heap.size b c) : But qs a c := h.trans (But.of_below k)
theorem But.setCell (h : But qs a b) (p : Addr) (v : Value) (hp : p.block ∈ qs ∨ a.heap.size ≤ p.block) : But qs a (b.setCell p v) :=
  ⟨h.os, h.tape, h.output, by simpa [World.setCell] using h.size, fun i hi hq => (Below.heap_setCell b p v i (by rintro rfl; rcases hp with hp | hp; exact hq hp; omega)).trans (h.block i hi hq)⟩
theorem But.alloc (h : But qs a b) (o : Obj) : But qs a (b.alloc o) :=
  h.trans ⟨rfl, rfl, rfl, by simp, fun k hk _ => Below.heap_alloc b o k hk⟩
theorem But.drewN (h : But qs a b) (n : Nat) : But qs a (b.drewN n) := ⟨h.os, h.tape, h.output, h.size, h.block⟩
theorem But.drew (h : But qs a b) : But qs a b.drew := ⟨h.os, h.tape, h.output, h.size, h.block⟩
theorem But.grown (h : But qs a b) {row : Option Nat} (hg : b.grownBy c row) (hr : ∀ g, row = some g → g ∈ qs ∨ a.heap.size ≤ g) : But qs a c :=
  ⟨hg.os.trans h.os, hg.tape.trans h.tape, hg.output.trans h.output, Nat.le_trans h.size hg.size, fun i hi hq => (hg.block i (Nat.lt_of_lt_of_le hi h.size) (by rintro rfl; rcases hr i rfl with hp | hp; exact hq hp; omega)).trans (h.block i hi hq)⟩
theorem But.heap (h : But qs w w') {k : Nat} {o : Obj} (hk : w.heap[k]? = some o) (hq : k ∉ qs) : w'.heap[k]? = some o :=
  (h.block k (Array.getElem?_eq_some_iff.1 hk).1 hq).trans hk
theorem But.cell (h : But qs w w') {p : Addr} {v : Value} (hp : w.cell? p = some v) (hq : p.block ∉ qs) : w'.cell? p = some v :=
  (World.cell?_of_block (w := w) (h.block p.block (World.block_lt_of_cell? w p hp) hq)).trans hp
theorem But.frozen (h : But qs w w') {p : Addr} {v : Value} (hp : w.cell? p = some v) (hq : p.block ∉ qs) : w'.frozen? p = w.frozen? p :=
  World.frozen?_of_block (w := w) (h.block p.block (World.block_lt_of_cell? w p hp) hq)
end

theorem blk_set (w : World) (c i : Nat) (cs : Array Value) (t : TypeId) (v : Value) (h : w.heap[c]? = some (.cells cs t (0, 0))) : (w.setCell ⟨c, i, none⟩ v).heap[c]? = some (.cells (cs.setIfInBounds i v) t (0, 0)) := by
  simp [World.setCell, Array.getElem?_modify, h]
theorem blk_free {w : World} {c i : Nat} {cs : Array Value} {t : TypeId} (h : w.heap[c]? = some (.cells cs t (0, 0))) : w.frozen? ⟨c, i, none⟩ = false := by simp [World.frozen?, h]

def tab64 : List Int := [0, 1, 56, 2, 57, 49, 28, 3, 61, 58, 42, 50, 38, 29, 17, 4, 62, 47, 59, 36, 45, 43, 51, 22, 53, 39, 33, 30, 24, 18, 12, 5, 63, 55, 48, 27, 60, 41, 37, 16, 46, 35, 44, 21, 52, 32, 23, 11, 54, 26, 40, 15, 34, 20, 31, 10, 25, 14, 19, 9, 13, 8, 7, 6]
/-- What the listed variables hold. -/
structure Gl (w : World) : Prop where
  t64 : Lib.TabIs Tryz.prog w "math/bits.deBruijn64tab" .u8 tab64
  t10 : Lib.TabIs Tryz.prog w "internal/strconv.uint64pow10" .u64 Lib.pow10Tab
  syn : ∃ te pe, w.cell? ⟨3, 0, none⟩ = some (.iface te pe)
  rng : ∃ te pe, w.cell? ⟨4, 0, none⟩ = some (.iface te pe)
  max : ∃ m : Int, w.cell? ⟨5, 0, none⟩ = some (.int .i64 m)
  size : 15 ≤ w.heap.size
theorem tab_keep {w w' : World} {n : String} {g : Nat} {k : IntKind} {zs : List Int} (hg : Tryz.prog.globalNamed n = some g) (h : Lib.TabIs Tryz.prog w n k zs) (hb : w'.heap[g]? = w.heap[g]?) : Lib.TabIs Tryz.prog w' n k zs := by
  unfold Lib.TabIs World.var? at *
  rw [hg] at h ⊢
  simp only [Option.bind_some] at h ⊢
  rw [hb]; exact h
theorem Gl.keep {w w' : World} {qs : List Nat} (h : Gl w) (hb : But qs w w') (hq : ∀ q ∈ qs, 15 ≤ q) : Gl w' := by
  have hs := h.size
  have hn : ∀ g, g < 15 → g ∉ qs := fun g hg hm => by have := hq g hm; omega
  refine ⟨tab_keep (g := 1) (by kernel_rfl) h.t64 (hb.block 1 (by omega) (hn 1 (by omega))), tab_keep (g := 2) (by kernel_rfl) h.t10 (hb.block 2 (by omega) (hn 2 (by omega))), ?_, ?_, ?_, Nat.le_trans hs hb.size⟩
  · obtain ⟨te, pe, e⟩ := h.syn; exact ⟨te, pe, hb.cell e (hn 3 (by omega))⟩
  · obtain ⟨te, pe, e⟩ := h.rng; exact ⟨te, pe, hb.cell e (hn 4 (by omega))⟩
  · obtain ⟨m, e⟩ := h.max; exact ⟨m, hb.cell e (hn 5 (by omega))⟩

theorem and_dbl (a b : Nat) : (2 * a) &&& (2 * b) = 2 * (a &&& b) := by
  apply Nat.eq_of_testBit_eq
  intro i
  cases i with
  | zero => simp
  | succ i =>
    have e : ∀ c : Nat, 2 * c / 2 = c := fun c => by omega
    rw [Nat.testBit_and, Nat.testBit_succ, Nat.testBit_succ, Nat.testBit_succ, e, e, e, Nat.testBit_and]
theorem and_odd (a b : Nat) : (2 * a + 1) &&& (2 * b + 1) = 2 * (a &&& b) + 1 := by
  apply Nat.eq_of_testBit_eq
  intro i
  have e : ∀ c : Nat, (2 * c + 1) / 2 = c := fun c => by omega
  cases i with
  | zero => simp
  | succ i => rw [Nat.testBit_and, Nat.testBit_succ, Nat.testBit_succ, Nat.testBit_succ, e, e, e, Nat.testBit_and]
theorem and_comp (n a : Nat) (h : a < 2 ^ n) : a &&& (2 ^ n - (a + 1)) = 0 := by
  apply Nat.eq_of_testBit_eq
  intro i
  rw [Nat.testBit_and, Nat.testBit_two_pow_sub_succ h]
  cases a.testBit i <;> simp
theorem low_bit : ∀ (k m : Nat), 0 < m → m < 2 ^ k → m &&& (2 ^ k - m) = 2 ^ tz m
  | 0, m, h0, h => by simp at h; omega
  | k + 1, m, h0, h => by
    rw [Nat.pow_succ] at h ⊢
    by_cases ho : m % 2 = 1
    · have e1 : m = 2 * (m / 2) + 1 := by omega
      have e2 : 2 ^ k * 2 - m = 2 * (2 ^ k - (m / 2 + 1)) + 1 := by omega
      have e3 : m / 2 < 2 ^ k := by omega
      rw [e2]
      have e4 : m &&& (2 * (2 ^ k - (m / 2 + 1)) + 1) = (2 * (m / 2) + 1) &&& (2 * (2 ^ k - (m / 2 + 1)) + 1) := by rw [← e1]
      rw [e4, and_odd, and_comp k _ e3, tz, dif_pos (Or.inl ho)]
    · have e1 : m = 2 * (m / 2) := by omega
      have e2 : 2 ^ k * 2 - m = 2 * (2 ^ k - m / 2) := by omega
      have e4 : m &&& (2 * (2 ^ k - m / 2)) = (2 * (m / 2)) &&& (2 * (2 ^ k - m / 2)) := by rw [← e1]
      have e5 : tz m = tz (m / 2) + 1 := by rw [tz, dif_neg (fun h' => by rcases h' with h' | h' <;> omega)]
      rw [e2, e4, and_dbl, low_bit k (m / 2) (by omega) (by omega), e5, Nat.pow_succ, Nat.mul_comm]
theorem tab_at : ∀ t : Nat, t < 64 → tab64[(2 ^ t * 285870213051353865 % 18446744073709551616) / 288230376151711744]? = some (t : Int) := by decide +kernel
theorem tz_lt {m : Nat} (h0 : 0 < m) (h : m < 18446744073709551616) : tz m < 64 := by
  obtain ⟨h1, h2⟩ := tz_spec m (by omega)
  refine Classical.byContradiction fun hc => ?_
  have h3 : 2 ^ 64 ≤ 2 ^ tz m := Nat.pow_le_pow_right (by omega) (by omega)
  have h4 : 0 < m / 2 ^ tz m := Nat.pos_of_ne_zero fun h => by rw [h] at h2; simp at h2
  have h5 : 2 ^ tz m ≤ m / 2 ^ tz m * 2 ^ tz m := Nat.le_mul_of_pos_left _ h4
  rw [h1] at h5
  have : (2 : Nat) ^ 64 = 18446744073709551616 := by decide
  omega
theorem and_nat (a b : Nat) (ha : a < 18446744073709551616) (hb : b < 18446744073709551616) : bits .and .u64 (a : Int) (b : Int) = ((a &&& b : Nat) : Int) := bits_and_nat a b ha hb

theorem tz_names (m : Nat) (h0 : 0 < m) (h : m < 18446744073709551616) : ∃ (nm p r q : Nat), IntKind.u64.wrap (-(m : Int)) = (nm : Int) ∧ bits .and .u64 (m : Int) (nm : Int) = (p : Int) ∧ IntKind.u64.wrap ((p : Int) * 285870213051353865) = (r : Int) ∧ (r : Int) / 288230376151711744 = (q : Int) ∧ q < 64 ∧ tab64.getD q 0 = (tz m : Int) ∧ q < tab64.length := by
  have hlt := tz_lt h0 h
  have h1 := low_bit 64 m h0 (by simpa using h)
  rw [show (2 : Nat) ^ 64 = 18446744073709551616 by decide] at h1
  have hn : IntKind.u64.wrap (-(m : Int)) = ((18446744073709551616 - m : Nat) : Int) := by rw [IntKind.wrap_u64]; omega
  have hand : bits .and .u64 (m : Int) ((18446744073709551616 - m : Nat) : Int) = ((2 ^ tz m : Nat) : Int) := by rw [and_nat _ _ h (by omega), h1]
  have ht := tab_at (tz m) hlt
  refine ⟨_, _, 2 ^ tz m * 285870213051353865 % 18446744073709551616, _, hn, hand, ?_, (Int.natCast_ediv _ 288230376151711744).symm, ?_, ?_, ?_⟩
  · rw [IntKind.wrap_u64]; omega
  · have : 2 ^ tz m * 285870213051353865 % 18446744073709551616 < 18446744073709551616 := Nat.mod_lt _ (by decide)
    omega
  · rw [List.getD_eq_getElem?_getD, ht]; rfl
  · exact (List.getElem?_eq_some_iff.1 ht).1
set_option maxRecDepth 100000 in
theorem tz_walk (m nm p r q t : Nat) (w : World) (h1 : IntKind.u64.wrap (-(m : Int)) = (nm : Int)) (h2 : bits .and .u64 (m : Int) (nm : Int) = (p : Int)) (h3 : IntKind.u64.wrap ((p : Int) * 285870213051353865) = (r : Int)) (h4 : (r : Int) / 288230376151711744 = (q : Int)) (h5 : q < 64) (hc : w.cell? ⟨1, q, none⟩ = some (.int .u8 (t : Int))) (g0 : ((m : Int) == 0) = false) (hwt : wrap64 (t : Int) = t) : Calls Tryz.prog 55 #[.int .u64 m] w fun e w' => e = .returned (.int .i64 (t : Nat)) ∧ w' = w := by
  go_enter Tryz.func55, Tryz.ntmps55
  go_wp2
  go_ret
  exact ⟨by simp [hwt], rfl⟩
theorem tz_any (m : Nat) (h0 : 0 < m) (h : m < 18446744073709551616) (w : World) (hg : Gl w) : Calls Tryz.prog 55 #[.int .u64 m] w fun e w' => e = .returned (.int .i64 (tz m : Nat)) ∧ w' = w := by
  obtain ⟨nm, p, r, q, h1, h2, h3, h4, h5, h6, h7⟩ := tz_names m h0 h
  have hcell := hg.t64.cell (g := 1) (by kernel_rfl) q h7
  rw [h6] at hcell
  have hlt := tz_lt h0 h
  exact tz_walk m nm p r q (tz m) w h1 h2 h3 h4 h5 hcell (by simp; omega) (by unfold wrap64; omega)
end Go.Proofs.YtnghppgpdeghfaaGreatDoor
namespace Go.Proofs.YtnghppgpdeghfaaGreatDoor
open Go.RowKit Go.Proofs.YtnghppgpdeghfaaGreatDoor.Fl Go.Proofs.YtnghppgpdeghfaaGreatDoor.Pt Go.Proofs.YtnghppgpdeghfaaGreatDoor.Tx

theorem tz16 : tz 16 = 4 := by
  rw [tz, dif_neg (by decide), tz, dif_neg (by decide), tz, dif_neg (by decide), tz, dif_neg (by decide), tz, dif_pos (by decide)]
theorem and15 (u : Nat) (h : u < 18446744073709551616) : bits .and .u64 (u : Int) 15 = ((u % 16 : Nat) : Int) := by
  have := and_nat u 15 h (by decide)
  rw [show (15 : Nat) = 2 ^ 4 - 1 by decide, Nat.and_two_pow_sub_one_eq_mod u 4] at this
  exact this
/-- Digits stand in an array, from its place 65 - k on. -/
def Dg (wr : World) (b : Nat) (D : List UInt8) : Prop := ∃ cs : Array Value, wr.heap[b]? = some (.cells cs 148 (0, 0)) ∧ cs.size = 65 ∧ D.length ≤ 65 ∧ ∀ (j : Nat) (c : UInt8), D[j]? = some c → cs[65 - D.length + j]? = some (.int .u8 (c.toNat : Int))
theorem Dg.nil {wr : World} {b : Nat} {cs : Array Value} (h : wr.heap[b]? = some (.cells cs 148 (0, 0))) (hs : cs.size = 65) : Dg wr b [] := ⟨cs, h, hs, by simp, fun j c hj => by simp at hj⟩
theorem Dg.cons {wr : World} {b : Nat} {D : List UInt8} (h : Dg wr b D) (hl : D.length < 65) (c : UInt8) : Dg (wr.setCell ⟨b, 65 - D.length - 1, none⟩ (.int .u8 (c.toNat : Int))) b (c :: D) := by
  obtain ⟨cs, h1, h2, h3, h4⟩ := h
  refine ⟨_, blk_set _ _ _ _ _ _ h1, by simpa using h2, by simp; omega, fun j d hj => ?_⟩
  cases j with
  | zero =>
    simp at hj; subst hj
    rw [List.length_cons, Nat.add_zero, show 65 - (D.length + 1) = 65 - D.length - 1 by omega, Array.getElem?_setIfInBounds_self_of_lt (by omega)]
  | succ j =>
    rw [List.getElem?_cons_succ] at hj
    have := h4 j d hj
    rw [List.length_cons, show 65 - (D.length + 1) + (j + 1) = 65 - D.length + j by omega, Array.getElem?_setIfInBounds_ne (by omega)]
    exact this
theorem Dg.cell {wr : World} {b : Nat} {D : List UInt8} (h : Dg wr b D) (j : Nat) (hj : j < 65) : ∃ v, wr.cell? ⟨b, j, none⟩ = some v ∧ wr.frozen? ⟨b, j, none⟩ = false := by
  obtain ⟨cs, h1, h2, _⟩ := h
  exact ⟨cs[j], by rw [cell_of_row wr b j _ _ _ h1]; exact Array.getElem?_eq_getElem (by omega), blk_free h1⟩

theorem Dg.string {wr : World} {b : Nat} {D : List UInt8} (h : Dg wr b D) : (convert 32 9 (.slice (some ⟨b, 65 - D.length, none⟩) D.length D.length)).run Tryz.prog wr = .ok (.string ⟨D.toArray⟩) wr := by
  obtain ⟨cs, h1, h2, h3, h4⟩ := h
  refine run_convert_bytes_back (P := Tryz.prog) wr 32 9 5 ⟨b, 65 - D.length, none⟩ D.length D Tryz.underlying32 Tryz.underlying5 Tryz.underlying9 (fun j hj => ?_)
  rw [Addr.add_lit, cell_of_row wr b _ _ _ _ h1]
  exact h4 j _ (List.getElem?_eq_getElem hj)
theorem run_tail (W : World) (b i k : Nat) (hi : i + k = 65) (hk : 0 < k) : (Instr.sliceAt 148 (.pointer (some ⟨b, 0, none⟩)) (some (.int .i64 (i : Int))) none none).run Tryz.prog W = .ok (.slice (some ⟨b, i, none⟩) k k) W := by
  have hal : Tryz.prog.arrayLen 148 = 65 := by kernel_rfl
  rw [run_sliceAt_array_l W 148 ⟨b, 0, none⟩ (by kernel_rfl) .i64 (i : Int) (by omega) (by rw [hal]; omega)]
  have hz : (sizeOf (Tryz.prog.elem 148)).run Tryz.prog W = .ok 1 W := by rw [show Tryz.prog.elem 148 = 5 by kernel_rfl]; go_simp
  rw [hz, hal]
  simp only [Result.andThen_ok, slicedAt, Int.toNat_natCast]
  rw [if_neg (by omega), Nat.mul_one, Addr.add_lit, Nat.zero_add, show 65 - i = k by omega]
def dig36 : ByteArray := ⟨#[48, 49, 50, 51, 52, 53, 54, 55, 56, 57, 97, 98, 99, 100, 101, 102, 103, 104, 105, 106, 107, 108, 109, 110, 111, 112, 113, 114, 115, 116, 117, 118, 119, 120, 121, 122]⟩
theorem dig_hc : ∀ m, m < 16 → ∀ hp : m < dig36.size, dig36[m]'hp = hc m := by decide +kernel

set_option linter.unusedSimpArgs false in
set_option maxRecDepth 100000 in
set_option maxHeartbeats 1000000 in
theorem fbits_any (U : Nat) (h : U < 18446744073709551616) (w : World) (hg : Gl w) : Calls Tryz.prog 86 #[.slice none 0 0, .int .u64 U, .int .i64 16, .bool false, .bool false] w fun e w' => e = .returned (.tuple #[.slice none 0 0, .string ⟨(hexD U).toArray⟩]) ∧ But [] w w' := by
  have ht := tz16
  have c2 : (bits .and .i64 16 15 == 0) = true := by decide
  obtain ⟨w1, hw1, hb1, hB⟩ : ∃ w1, w.alloc (.cells Tryz.zeroCells148 148) = w1 ∧ But [] w w1 ∧ w1.heap[w.heap.size]? = some (.cells Tryz.zeroCells148 148 (0, 0)) := ⟨_, rfl, (But.refl _ _).alloc _, heap_alloc_new w _⟩
  have hg1 := hg.keep hb1 (by simp)
  have HG1 := Lib.hid hg1
  have hD0 := Dg.nil hB (by kernel_rfl)
  clear hB hg1
  go_enter Tryz.func86, Tryz.ntmps86
  go_wp2_with (first | (go_at_call 55; refine (tz_any 16 (by omega) (by omega) _ HG1.out).mono ?_; rintro e w2 ⟨rfl, hw2⟩; rw [hw2]; clear hw2 w2) | (go_at_call 106; go_in) | (go_at_call 107; go_in))
  generalize hb : w.heap.size = b at *
  go_loopw [1, 13] (fun u i wr => ∃ (x : Nat) (D : List UInt8), u = .int .u64 (x : Int) ∧ i = .int .i64 ((65 - D.length : Nat) : Int) ∧ x < 18446744073709551616 ∧ Hid (x * 16 ^ D.length ≤ U) ∧ D.length ≤ 15 ∧ Hid (hexD U = hexD x ++ D) ∧ Dg wr b D ∧ But [b] w1 wr) (fun u _ _ => (intOf u).toNat)
  case atStart => exact ⟨U, [], rfl, rfl, h, Lib.hid (by simp), by simp, Lib.hid (by simp), hD0, But.refl _ _⟩
  case round =>
    obtain ⟨x, D, rfl, rfl, hx, hU, hl, hD, hdg, hbt⟩ := hrel
    by_cases h16 : 16 ≤ x
    · have t1 : decide ((16 : Int) ≤ (x : Int)) = true := by simp; omega
      have hl14 : D.length ≤ 14 := by
        refine Classical.byContradiction fun hc => ?_
        have e1 : 16 ^ 16 ≤ x * 16 ^ D.length := by
          have : 16 * 16 ^ 15 ≤ x * 16 ^ D.length := Nat.mul_le_mul h16 (Nat.pow_le_pow_right (by omega) (by omega))
          simpa using this
        have e2 := hU.out
        have e3 : (16 : Nat) ^ 16 = 18446744073709551616 := by decide
        omega
      obtain ⟨v0, hc0, hz0⟩ := hdg.cell (65 - D.length - 1) (by omega)
      have ha := and15 x hx
      have hdg' := hdg.cons (by omega) (hc (x % 16))
      have hbt' : But [b] w1 (wr.setCell ⟨b, 65 - D.length - 1, none⟩ (.int .u8 ((hc (x % 16)).toNat : Int))) := hbt.setCell _ _ (.inl (by simp))
      have hD' : hexD U = hexD (x / 16) ++ (hc (x % 16) :: D) := by rw [hD.out, hexD_big (by omega), List.append_assoc]; rfl
      have hU' : x / 16 * 16 ^ (D.length + 1) ≤ U := by
        refine Nat.le_trans ?_ hU.out
        rw [Nat.pow_succ, Nat.mul_comm (16 ^ D.length) 16, ← Nat.mul_assoc]
        exact Nat.mul_le_mul_right _ (Nat.div_mul_le_self x 16)
      have HD := Lib.hid hD'
      have HU := Lib.hid hU'
      clear hD' hU' hU hD
      have hm16 : x % 16 < 16 := by omega
      generalize hm : x % 16 = m at *
      have hdc : ∀ hp, (⟨#[48, 49, 50, 51, 52, 53, 54, 55, 56, 57, 97, 98, 99, 100, 101, 102, 103, 104, 105, 106, 107, 108, 109, 110, 111, 112, 113, 114, 115, 116, 117, 118, 119, 120, 121, 122]⟩ : ByteArray)[m]'hp = hc m := fun hp => dig_hc m hm16 hp
      go_wp2
      exact ⟨⟨x / 16, hc m :: D, by go_num, by simp only [List.length_cons]; go_num, by omega, HU, by simp only [List.length_cons]; omega, HD, hdg', hbt'⟩, by simp [intOf]; omega⟩
    · have t1 : decide ((16 : Int) ≤ (x : Int)) = false := by simp; omega
      obtain ⟨v0, hc0, hz0⟩ := hdg.cell (65 - D.length - 1) (by omega)
      have hdg' := hdg.cons (by omega) (hc x)
      have hbt' : But [b] w1 (wr.setCell ⟨b, 65 - D.length - 1, none⟩ (.int .u8 ((hc x).toNat : Int))) := hbt.setCell _ _ (.inl (by simp))
      have hD' : hexD U = hc x :: D := by rw [hD.out, hexD_small (by omega)]; rfl
      have HD := Lib.hid hD'
      clear hD' hD hU
      have hdc : ∀ hp, (⟨#[48, 49, 50, 51, 52, 53, 54, 55, 56, 57, 97, 98, 99, 100, 101, 102, 103, 104, 105, 106, 107, 108, 109, 110, 111, 112, 113, 114, 115, 116, 117, 118, 119, 120, 121, 122]⟩ : ByteArray)[x]'hp = hc x := fun hp => dig_hc x (by omega) hp
      have e0 : ((65 - D.length : Nat) : Int) - 1 = ((65 - D.length - 1 : Nat) : Int) := by omega
      have hsl : ∀ W, (Instr.sliceAt 148 (.pointer (some ⟨b, 0, none⟩)) (some (.int .i64 ((65 - D.length - 1 : Nat) : Int))) none none).run Tryz.prog W = .ok (.slice (some ⟨b, 65 - D.length - 1, none⟩) (D.length + 1) (D.length + 1)) W := fun W => run_tail W b _ _ (by omega) (by omega)
      have hcv := hdg'.string
      rw [List.length_cons, show 65 - (D.length + 1) = 65 - D.length - 1 by omega] at hcv
      go_wp2

      go_ret2
      exact ⟨by rw [HD.out]; rfl, hb1.then hbt' (fun i hi hm => by simp at hm; omega)⟩
theorem ifu_any (U : Nat) (h : U < 18446744073709551616) (w : World) (hg : Gl w) : Calls Tryz.prog 67 #[.int .u64 U, .int .i64 16] w fun e w' => e = .returned (.string ⟨(hexD U).toArray⟩) ∧ But [] w w' := by
  go_enter Tryz.func67, Tryz.ntmps67
  go_wp2_with (go_at_call 86; refine (fbits_any U h _ hg).mono ?_; rintro e w1 ⟨rfl, hb1⟩)
  go_ret
  exact ⟨rfl, hb1⟩
theorem fu_any (U : Nat) (h : U < 18446744073709551616) (w : World) (hg : Gl w) : Calls Tryz.prog 56 #[.int .u64 U, .int .i64 16] w fun e w' => e = .returned (.string ⟨(hexD U).toArray⟩) ∧ But [] w w' := by
  go_enter Tryz.func56, Tryz.ntmps56
  go_wp2_with (go_at_call 67; refine (ifu_any U h _ hg).mono ?_; rintro e w1 ⟨rfl, hb1⟩)
  go_ret
  exact ⟨rfl, hb1⟩
end Go.Proofs.YtnghppgpdeghfaaGreatDoor
namespace Go.Proofs.YtnghppgpdeghfaaGreatDoor
open Go.RowKit Go.Proofs.YtnghppgpdeghfaaGreatDoor.Fl Go.Proofs.YtnghppgpdeghfaaGreatDoor.Pt Go.Proofs.YtnghppgpdeghfaaGreatDoor.Tx

theorem But.grew (w : World) (k : Nat) (os : Array Obj) : But [] w (Sort.grow (w.drewN k) os) := (But.refl _ _).trans (But.of_below ⟨rfl, rfl, rfl, by simp [Sort.grow], fun i hi => by simp [Sort.grow]; exact Array.getElem?_append_left hi⟩)
theorem isnan_any (b : Nat) (hb : b < 18446744073709551616) (w : World) : Calls Tryz.prog 52 #[.float .f64 b] w fun e w' => e = .returned (.bool (nan b)) ∧ w = w' := by
  have h := ne_self hb
  go_enter Tryz.func52, Tryz.ntmps52
  go_wp2
  go_ret
  exact ⟨rfl, rfl⟩
theorem isinf_any (b : Nat) (hb : b < 18446744073709551616) (s : Int) (hs : s = 1 ∨ s = -1) (w : World) : Calls Tryz.prog 53 #[.float .f64 b, .int .i64 s] w fun e w' => e = .returned (.bool (if s = 1 then decide (b = INF) else decide (ng b = INF))) ∧ w = w' := by
  rcases hs with rfl | rfl
  · exact (isinf_pos b hb w).mono fun e w' h => by simpa using h
  · exact (isinf_neg b hb w).mono fun e w' h => by simpa using h
theorem itoa_len {z : Int} (h1 : -1074 ≤ z) (h2 : z ≤ 1023) : (Lib.itoa z).length ≤ 5 := by
  unfold Lib.itoa
  split
  · have := dd_len 3 z.natAbs (by omega)
    simp; omega
  · have := dd_len 3 z.toNat (by omega)
    omega
/-- A text's bytes, as the model has them. -/
def str (l : List UInt8) : ByteArray := ⟨l.toArray⟩

set_option linter.unusedSimpArgs false in
set_option maxRecDepth 100000 in
set_option maxHeartbeats 1000000 in
theorem float_any (b : Nat) (hb : b < 18446744073709551616) (w : World) (hg : Gl w) : Calls Tryz.prog 26 #[.float .f64 b] w fun e w' => e = .returned (.string (str (fl b))) ∧ But [] w w' := by
  by_cases hn : nan b = true
  · go_enter Tryz.func26, Tryz.ntmps26
    go_wp2_with (go_at_call 52; refine (isnan_any b hb _).mono ?_; rintro e w1 ⟨rfl, rfl⟩)
    go_ret
    exact ⟨by simp [fl, hn, str], But.refl _ _⟩
  · have hn' : nan b = false := by simpa using hn
    by_cases hi : b % SG = INF
    · by_cases hs : SG ≤ b
      · have e1 : decide (b = INF) = false := by simp only [SG, INF] at *; simp; omega
        have e2 : decide (ng b = INF) = true := by unfold ng; simp only [SG, INF] at *; simp [hs]; omega
        go_enter Tryz.func26, Tryz.ntmps26
        go_wp2_with (first | (go_at_call 52; refine (isnan_any b hb _).mono ?_; rintro e w1 ⟨rfl, rfl⟩) | (go_at_call 53; refine (isinf_any b hb _ (by simp) _).mono ?_; rintro e w1 ⟨rfl, rfl⟩))
        go_ret
        exact ⟨by simp [fl, hn', hi, hs, str], But.refl _ _⟩
      · have e1 : decide (b = INF) = true := by simp only [SG, INF] at *; simp; omega
        go_enter Tryz.func26, Tryz.ntmps26
        go_wp2_with (first | (go_at_call 52; refine (isnan_any b hb _).mono ?_; rintro e w1 ⟨rfl, rfl⟩) | (go_at_call 53; refine (isinf_any b hb _ (by simp) _).mono ?_; rintro e w1 ⟨rfl, rfl⟩))
        go_ret
        exact ⟨by simp [fl, hn', hi, hs, str], But.refl _ _⟩
    · have hf : fin b := ⟨hb, by unfold nan at hn'; simp at hn'; simp only [SG, INF] at *; omega⟩
      have e1 : decide (b = INF) = false := by simp only [SG, INF] at *; simp; omega
      have e2 : decide (ng b = INF) = false := by unfold ng; simp only [SG, INF] at *; simp; split <;> omega
      have hcl : ¬ 3 ≤ cls b := by
        have h2 := hf.2
        unfold cls
        simp only [SG, INF, ON] at *
        split
        · omega
        · split <;> omega
      have hsp : splitV b = .tuple #[.bool (sgb b), .int .u64 (spm b), .int .i64 (spe b), .int .i64 0] := by unfold splitV; rw [if_neg hcl]
      obtain ⟨p1, p2, p3, _, _⟩ := parse hf
      have hm64 : spm b < 18446744073709551616 := by rw [spm_mg]; have := mg_lt (b % SG); omega
      have hsb : (if SG ≤ b then ([45] : List UInt8) else []) = if sgb b then [45] else [] := by unfold sgb; simp
      have hfl := fl_fin hf
      rw [hsb] at hfl
      have hspe := spe_sh (b := b)
      by_cases h0 : spm b = 0
      · have g0 : ((spm b : Int) == 0) = true := by simp [h0]
        have ec : cm b = 0 := by unfold cm; rw [if_pos h0]
        have ee : ce b = 0 := by unfold ce; rw [if_pos h0]
        rw [ec, ee] at hfl
        have HFL := Lib.hid hfl
        have hl1 : (hexD 0).length ≤ 14 := hexD_len 13 0 (by omega)
        have hl2 := itoa_len (z := 0) (by omega) (by omega)
        have hm : spm b = 0 := h0
        clear hfl hspe p1 p2 p3 hm64
        generalize spe b = E at *
        rw [hm] at hsp g0
        clear hm h0 ec ee
        cases hs : sgb b
        all_goals
          rw [hs] at hsp HFL
          clear hs
          go_enter Tryz.func26, Tryz.ntmps26
          go_wp2_with (first | (go_at_call 52; refine (isnan_any b hb _).mono ?_; rintro e w1 ⟨rfl, hw1⟩; rw [← hw1]; clear hw1 w1) | (go_at_call 53; refine (isinf_any b hb _ (by simp) _).mono ?_; rintro e w1 ⟨rfl, hw1⟩; rw [← hw1]; clear hw1 w1) | (go_at_call 54; refine (split_any b hb _).mono ?_; rintro e w1 ⟨rfl, hw1⟩; rw [hsp, ← hw1]; clear hw1 w1) | (go_at_call 56; refine (fu_any 0 (by omega) _ hg).mono ?_; rintro e w1 ⟨rfl, hb1⟩; have hg1 := hg.keep hb1 (by simp)) | (go_at_call 57; refine (Tryz.strconv_Itoa 0 (by omega) (by omega) _ hg1.t10).mono ?_; rintro e w2 ⟨rfl, kk, os, rfl⟩))
          all_goals first | (exfalso; omega) | skip
          go_ret
          exact ⟨by rw [HFL.out]; exact congrArg (fun s => Ending.returned (.string s)) (ByteArray.ext (by simp [str])), hb1.trans (But.grew _ _ _)⟩
      · have g0 : ((spm b : Int) == 0) = false := by simp; omega
        have ec : cm b = spm b / 2 ^ tz (spm b) := by unfold cm; rw [if_neg h0]
        have ee : ce b = spe b + tz (spm b) := by unfold ce; rw [if_neg h0]
        have htz := tz_lt (by omega) hm64
        have HFL := Lib.hid hfl
        have hdv : ((spm b : Nat) : Int) / 2 ^ tz (spm b) = ((cm b : Nat) : Int) := by rw [ec]; simp
        generalize hm : spm b = m at *
        generalize hk : tz m = k at *
        generalize spe b = E at *
        generalize cm b = c at *
        generalize ce b = z at *
        have hw : wrap64 (E + (k : Int)) = z := by unfold wrap64; omega
        have hl1 : (hexD c).length ≤ 14 := hexD_len 13 c (by omega)
        have hl2 := itoa_len p2 p3
        clear hfl hspe ec ee
        cases hs : sgb b
        all_goals
          rw [hs] at hsp HFL
          clear hs
          go_enter Tryz.func26, Tryz.ntmps26
          go_wp2_with (first | (go_at_call 52; refine (isnan_any b hb _).mono ?_; rintro e w1 ⟨rfl, hw1⟩; rw [← hw1]; clear hw1 w1) | (go_at_call 53; refine (isinf_any b hb _ (by simp) _).mono ?_; rintro e w1 ⟨rfl, hw1⟩; rw [← hw1]; clear hw1 w1) | (go_at_call 54; refine (split_any b hb _).mono ?_; rintro e w1 ⟨rfl, hw1⟩; rw [hsp, ← hw1]; clear hw1 w1) | (go_at_call 55; refine (tz_any m (by omega) hm64 _ hg).mono ?_; rintro e w1 ⟨rfl, hw1⟩; rw [hk, hw1]; clear hw1 w1) | (go_at_call 56; refine (fu_any c (by omega) _ hg).mono ?_; rintro e w1 ⟨rfl, hb1⟩; have hg1 := hg.keep hb1 (by simp)) | (go_at_call 57; refine (Tryz.strconv_Itoa z (by omega) (by omega) _ hg1.t10).mono ?_; rintro e w2 ⟨rfl, kk, os, rfl⟩))
          all_goals first | (exfalso; omega) | skip
          go_ret
          exact ⟨by rw [HFL.out]; exact congrArg (fun s => Ending.returned (.string s)) (ByteArray.ext (by simp [str])), hb1.trans (But.grew _ _ _)⟩
end Go.Proofs.YtnghppgpdeghfaaGreatDoor
namespace Go.Proofs.YtnghppgpdeghfaaGreatDoor
open Go.RowKit Go.Proofs.YtnghppgpdeghfaaGreatDoor.Fl Go.Proofs.YtnghppgpdeghfaaGreatDoor.Pt Go.Proofs.YtnghppgpdeghfaaGreatDoor.Tx

theorem fl_len {b : Nat} (hb : b < 18446744073709551616) : (fl b).length ≤ 30 := by
  by_cases hf : fin b
  · obtain ⟨p1, p2, p3, _⟩ := parse hf
    have h1 := hexD_len 13 (cm b) (by omega)
    have h2 := itoa_len p2 p3
    rw [fl_fin hf]
    split <;> simp <;> omega
  · unfold fl
    split
    · simp
    · split
      · split <;> simp
      · rename_i h1 h2
        refine absurd ⟨hb, ?_⟩ hf
        unfold nan at h1
        simp at h1
        omega

set_option linter.unusedSimpArgs false in
set_option maxRecDepth 100000 in
set_option maxHeartbeats 1000000 in
theorem write_any (x y : Nat) (hx : x < 18446744073709551616) (hy : y < 18446744073709551616) (w : World) (hg : Gl w) : Calls Tryz.prog 11 #[.complex .f64 x y] w fun e w' => e = .returned (.string (str (num x y))) ∧ But [] w w' := by
  have l1 := fl_len hx
  have l2 := fl_len hy
  have e1 : (str (fl x)).size = (fl x).length := rfl
  have e2 : (str (fl y)).size = (fl y).length := rfl
  go_enter Tryz.func11, Tryz.ntmps11
  go_wp2_with (go_at_call 26; refine (float_any _ (by assumption) _ (by assumption)).mono ?_; rintro e w1 ⟨rfl, hb1⟩; have hg1 := Gl.keep (by assumption) hb1 (by simp))
  all_goals first | (exfalso; omega) | skip
  go_ret
  exact ⟨congrArg (fun s => Ending.returned (.string s)) (ByteArray.ext (by simp [str, num])), But.trans (by assumption) hb1⟩

/-- A reader stands at a in the text s. -/
def Rdr (w : World) (R : Nat) (s : ByteArray) (a : Nat) : Prop := w.heap[R]? = some (.cells #[.string s, .int .i64 (a : Int)] 70 (0, 0))
theorem Rdr.keep {w w' : World} {R a : Nat} {s : ByteArray} {qs : List Nat} (h : Rdr w R s a) (hb : But qs w w') (hq : R ∉ qs) : Rdr w' R s a := hb.heap h hq
theorem get_eq (s : ByteArray) (a : Nat) (h : a < s.size) : s.data.toList[a]? = some (s[a]'h) := by
  rw [List.getElem?_eq_getElem (by simpa using h)]; rfl

set_option linter.unusedSimpArgs false in
set_option maxRecDepth 100000 in
theorem sees_any (R a : Nat) (s : ByteArray) (c : UInt8) (w : World) (h : Rdr w R s a) : Calls Tryz.prog 32 #[.pointer (some ⟨R, 0, none⟩), .int .u8 (c.toNat : Int)] w fun e w' => e = .returned (.bool (decide (s.data.toList[a]? = some c))) ∧ But [] w w' := by
  have c0 : w.cell? ⟨R, 0, none⟩ = some (.string s) := by rw [cell_of_row w R 0 _ _ _ h]; rfl
  have c1 : w.cell? ⟨R, 1, none⟩ = some (.int .i64 (a : Int)) := by rw [cell_of_row w R 1 _ _ _ h]; rfl
  by_cases ha : a < s.size
  · have t1 : decide ((a : Int) < (s.size : Int)) = true := by simp; omega
    have hd : (((s[a]'ha).toNat : Int) == (c.toNat : Int)) = decide (s.data.toList[a]? = some c) := by
      rw [get_eq s a ha]
      by_cases e : s[a]'ha = c
      · rw [e]; simp
      · have : ¬ (s[a]'ha).toNat = c.toNat := fun e' => e (UInt8.toNat_inj.1 e')
        simp [e]; omega
    have HD := Lib.hid hd
    clear hd h
    go_enter Tryz.func32, Tryz.ntmps32
    go_wp2_with fail
    go_quiet (fail)
    go_wp2_with fail
    go_ret
    exact ⟨by simp [HD.out], (But.refl [] w).drewN nq⟩
  · have t1 : decide ((a : Int) < (s.size : Int)) = false := by simp; omega
    have hd : decide (s.data.toList[a]? = some c) = false := by rw [List.getElem?_eq_none (by simpa using ha)]; simp
    rw [hd]
    clear hd h
    go_enter Tryz.func32, Tryz.ntmps32
    go_wp2_with fail
    go_quiet (fail)
    go_wp2_with fail
    go_ret
    exact ⟨rfl, (But.refl [] w).drewN nq⟩
end Go.Proofs.YtnghppgpdeghfaaGreatDoor
namespace Go.Proofs.YtnghppgpdeghfaaGreatDoor
open Go.RowKit Go.Proofs.YtnghppgpdeghfaaGreatDoor.Fl Go.Proofs.YtnghppgpdeghfaaGreatDoor.Pt Go.Proofs.YtnghppgpdeghfaaGreatDoor.Tx

/-- A fault: its place and its error. -/
def Fa (p : Nat) (c : Int) : Ending := .panicked [{ v := .iface 73 (.agg #[.int .i64 (p : Int), .int .i64 c]), recovered := false }]

theorem fail_any (R a : Nat) (s : ByteArray) (w : World) (h : Rdr w R s a) : Calls Tryz.prog 58 #[.pointer (some ⟨R, 0, none⟩)] w fun e w' => e = Fa a 12 ∧ w' = w := by
  have c1 : w.cell? ⟨R, 1, none⟩ = some (.int .i64 (a : Int)) := by rw [cell_of_row w R 1 _ _ _ h]; rfl
  clear h
  go_enter Tryz.func58, Tryz.ntmps58
  go_wp2
  exact ⟨rfl, rfl, rfl⟩
/-- One byte on. -/
theorem Rdr.step {w : World} {R a : Nat} {s : ByteArray} (h : Rdr w R s a) (b : Nat) : Rdr (w.setCell ⟨R, 1, none⟩ (.int .i64 (b : Int))) R s b := blk_set _ _ _ _ _ _ h
theorem Rdr.cells {w : World} {R a : Nat} {s : ByteArray} (h : Rdr w R s a) : w.cell? ⟨R, 0, none⟩ = some (.string s) ∧ w.cell? ⟨R, 1, none⟩ = some (.int .i64 (a : Int)) ∧ w.frozen? ⟨R, 1, none⟩ = false :=
  ⟨by rw [cell_of_row w R 0 _ _ _ h]; rfl, by rw [cell_of_row w R 1 _ _ _ h]; rfl, blk_free h⟩

set_option linter.unusedSimpArgs false in
set_option maxRecDepth 100000 in
theorem take_any (R a : Nat) (s : ByteArray) (t : List UInt8) (ht : t.length ≤ 100) (hs : s.size ≤ 4294967280) (ha : a ≤ s.size) (w : World) (h : Rdr w R s a) : Calls Tryz.prog 28 #[.pointer (some ⟨R, 0, none⟩), .string (str t)] w fun e w' => But [R] w w' ∧ ((∃ b, tk s.data.toList t a = (true, b) ∧ e = .returned (.tuple #[]) ∧ Rdr w' R s b) ∨ (∃ b, tk s.data.toList t a = (false, b) ∧ e = Fa b 12)) := by
  have hsz : (str t).size = t.length := rfl
  go_enter Tryz.func28, Tryz.ntmps28
  go_wp2
  go_loopw [4, 7] (fun _ i wr => ∃ k : Nat, k ≤ t.length ∧ i = .int .i64 (k : Int) ∧ Rdr wr R s (a + k) ∧ But [R] w wr ∧ Hid (tk s.data.toList t a = tk s.data.toList (t.drop k) (a + k)) ∧ a + k ≤ s.size) (fun _ i _ => t.length - (intOf i).toNat)
  case atStart => exact ⟨0, Nat.zero_le _, rfl, h, But.refl _ _, Lib.hid (by simp), by omega⟩
  case round =>
    obtain ⟨k, hk, rfl, hr, hb, hT, hak⟩ := hrel
    by_cases hlt : k < t.length
    · have t1 : decide ((k : Int) < (t.length : Int)) = true := by simp; omega
      obtain ⟨c, hc⟩ : ∃ c, t[k]? = some c := ⟨_, List.getElem?_eq_getElem hlt⟩
      have hget : ∀ hp, (str t)[k]'hp = c := fun hp => by
        have := List.getElem?_eq_getElem hlt
        rw [hc] at this
        exact (Option.some.inj this).symm
      have hdr : t.drop k = c :: t.drop (k + 1) := by
        obtain ⟨_, he⟩ := List.getElem?_eq_some_iff.1 hc
        rw [List.drop_eq_getElem_cons hlt, he]
      have hT' := hT.out
      rw [hdr, tk] at hT'
      by_cases hy : s.data.toList[a + k]? = some c
      · rw [if_pos hy] at hT'
        have HT := Lib.hid hT'
        have hlt2 : a + k < s.size := by
          have := (List.getElem?_eq_some_iff.1 hy).1
          simpa using this
        have hdy : decide (s.data.toList[a + k]? = some c) = true := decide_eq_true hy
        have e1 : IntKind.i64.wrap (((a + k : Nat) : Int) + 1) = ((a + k + 1 : Nat) : Int) := by rw [IntKind.wrap_i64]; omega
        generalize hA : a + k = A at *
        have HR := Lib.hid hr
        clear hT' hr hy hdr hc
        go_wp2_with (go_at_call 32; refine (sees_any R A s c _ HR.out).mono ?_; rintro e w1 ⟨rfl, hb1⟩; rw [hdy]; have hr1 := HR.out.keep hb1 (by simp); obtain ⟨z0, z1, z2⟩ := hr1.cells)
        have hst := hr1.step (A + 1)
        exact ⟨⟨k + 1, by omega, by go_num, by rw [show a + (k + 1) = A + 1 by omega]; exact hst, (hb.trans (hb1.weak (by simp))).setCell _ _ (.inl (by simp)), by rw [show a + (k + 1) = A + 1 by omega]; exact HT, by omega⟩, by simp [intOf]; omega⟩
      · rw [if_neg hy] at hT'
        have HT := Lib.hid hT'
        have hdy : decide (s.data.toList[a + k]? = some c) = false := decide_eq_false hy
        generalize hA : a + k = A at *
        have HR := Lib.hid hr
        clear hT' hr hy hdr hc
        go_wp2_with (first | (go_at_call 32; refine (sees_any R A s c _ HR.out).mono ?_; rintro e w1 ⟨rfl, hb1⟩; rw [hdy]; have hr1 := HR.out.keep hb1 (by simp)) | (go_at_call 58; refine (fail_any R A s _ hr1).mono ?_; rintro e w2 ⟨he, rfl⟩; subst he; simp only [Fa]))
        exact ⟨rfl, hb.trans (hb1.weak (by simp)), .inr ⟨A, HT.out, rfl⟩⟩
    · obtain rfl : k = t.length := by omega
      have t1 : decide ((t.length : Int) < (t.length : Int)) = false := by simp
      have hT' := hT.out
      rw [List.drop_length, tk] at hT'
      have HT := Lib.hid hT'
      clear hT'
      go_wp2
      go_end0
      exact ⟨hb, .inl ⟨_, HT.out, rfl, hr⟩⟩
end Go.Proofs.YtnghppgpdeghfaaGreatDoor
namespace Go.Proofs.YtnghppgpdeghfaaGreatDoor
open Go.RowKit Go.Proofs.YtnghppgpdeghfaaGreatDoor.Fl Go.Proofs.YtnghppgpdeghfaaGreatDoor.Pt Go.Proofs.YtnghppgpdeghfaaGreatDoor.Tx

def atOf (R : Nat) (w : World) : Nat := (intOf ((w.cell? ⟨R, 1, none⟩).getD undef)).toNat
theorem Rdr.at {w : World} {R a : Nat} {s : ByteArray} (h : Rdr w R s a) : atOf R w = a := by unfold atOf; rw [h.cells.2.1]; simp [intOf]
def ofH : List UInt8 := [48, 49, 50, 51, 52, 53, 54, 55, 56, 57, 97, 98, 99, 100, 101, 102]
def ofD : List UInt8 := [48, 49, 50, 51, 52, 53, 54, 55, 56, 57]
theorem ofH_all : ∀ n, n < 256 → decide (Lib.indexByte ofH (UInt8.ofNat n) < 0) = !isH (UInt8.ofNat n) := by decide +kernel
theorem ofD_all : ∀ n, n < 256 → decide (Lib.indexByte ofD (UInt8.ofNat n) < 0) = !isD (UInt8.ofNat n) := by decide +kernel
theorem ofH_p (c : UInt8) : decide (Lib.indexByte ofH c < 0) = !isH c := by have := ofH_all c.toNat c.toNat_lt; rwa [UInt8.ofNat_toNat] at this
theorem ofD_p (c : UInt8) : decide (Lib.indexByte ofD c < 0) = !isD c := by have := ofD_all c.toNat c.toNat_lt; rwa [UInt8.ofNat_toNat] at this

set_option linter.unusedSimpArgs false in
set_option maxRecDepth 100000 in
set_option maxHeartbeats 1000000 in
theorem digits_any (p : UInt8 → Bool) (of : List UInt8) (hof : ∀ c : UInt8, decide (Lib.indexByte of c < 0) = !p c) (R a : Nat) (s : ByteArray) (hs : s.size ≤ 4294967280) (ha : a ≤ s.size) (w : World) (h : Rdr w R s a) : Calls Tryz.prog 70 #[.pointer (some ⟨R, 0, none⟩), .string (str of)] w fun e w' => But [R] w w' ∧ ((∃ b, dg p s.data.toList a = (true, b) ∧ e = .returned (.tuple #[]) ∧ Rdr w' R s b) ∨ (∃ b, dg p s.data.toList a = (false, b) ∧ e = Fa b 12)) := by
  obtain ⟨c0, c1, cz⟩ := h.cells
  have HOF := Lib.hid hof
  clear hof
  by_cases hlt : a < s.size
  · obtain ⟨c, hc, hget⟩ : ∃ c : UInt8, s.data.toList[a]? = some c ∧ s[a]'hlt = c := ⟨_, get_eq s a hlt, rfl⟩
    have t1 : decide ((s.size : Int) ≤ (a : Int)) = false := by simp; omega
    have hidx := HOF.out c
    have hcc : ((c.toNat : Int)).toNat.toUInt8 = c := by simp
    have hso : (str of).data.toList = of := by simp [str]
    cases hp : p c
    · have hdg : dg p s.data.toList a = (false, a) := by unfold dg; rw [hc]; simp [hp]
      rw [hp] at hidx
      have HDG := Lib.hid hdg
      have HR := Lib.hid h
      clear hdg h hc
      go_enter Tryz.func70, Tryz.ntmps70
      go_wp2_with fail
      go_quiet ((go_at_call 88; exact Calls.quiet_of_same (Tryz.strings_IndexByte _ _ _)))
      go_wp2_with (go_at_call 58; refine (fail_any R a s _ (HR.out.keep ((But.refl [] w).drewN _) (by simp))).mono ?_; rintro e w2 ⟨he, rfl⟩; subst he; simp only [Fa])
      exact ⟨rfl, (But.refl _ _).drewN _, .inr ⟨a, HDG.out, rfl⟩⟩
    · rw [hp] at hidx
      have HR := Lib.hid h
      by_cases h0 : c = 48
      · subst h0
        have hdg : dg p s.data.toList a = (true, a + 1) := by unfold dg; rw [hc]; show (if p 48 then _ else _) = _; rw [if_pos hp, if_pos rfl]
        have HDG := Lib.hid hdg
        have hdy : decide (s.data.toList[a]? = some 48) = true := decide_eq_true hc
        have e1 : IntKind.i64.wrap ((a : Int) + 1) = (a : Int) + 1 := by rw [IntKind.wrap_i64]; omega
        clear hdg h hc
        go_enter Tryz.func70, Tryz.ntmps70
        go_wp2_with fail
        go_quiet ((go_at_call 88; exact Calls.quiet_of_same (Tryz.strings_IndexByte _ _ _)))
        have hrq := HR.out.keep ((But.refl [] w).drewN nq) (by simp)
        go_wp2_with (go_at_call 32; refine (sees_any R a s 48 _ hrq).mono ?_; rintro e w1 ⟨rfl, hb1⟩; rw [hdy]; have hr1 := hrq.keep hb1 (by simp); obtain ⟨z0, z1, z2⟩ := hr1.cells)
        refine bodyPost_ret (results_none rfl _ _ _) rfl ?_
        exact ⟨(((But.refl _ _).drewN nq).trans (hb1.weak (by simp))).setCell _ _ (.inl (by simp)), .inl ⟨_, HDG.out, rfl, hr1.step (a + 1)⟩⟩
      · have hdg : dg p s.data.toList a = (true, rn p s.data.toList a) := by unfold dg; rw [hc]; show (if p c then _ else _) = _; rw [if_pos hp, if_neg h0]
        have HDG := Lib.hid hdg
        have hdy : decide (s.data.toList[a]? = some 48) = false := decide_eq_false (by rw [hc]; simp [h0])
        clear hdg h hc
        go_enter Tryz.func70, Tryz.ntmps70
        go_wp2_with fail
        go_quiet ((go_at_call 88; exact Calls.quiet_of_same (Tryz.strings_IndexByte _ _ _)))
        have hrq := HR.out.keep ((But.refl [] w).drewN nq) (by simp)
        go_wp2_with (go_at_call 32; refine (sees_any R a s 48 _ hrq).mono ?_; rintro e w1 ⟨rfl, hb1⟩; rw [hdy])
        have hr1 := hrq.keep hb1 (by simp)
        have hbw : But [R] w w1 := ((But.refl _ _).drewN nq).trans (hb1.weak (by simp))
        clear hcc hget hidx t1 hp hdy c0 c1 cz
        go_loopw [] (fun wr => ∃ k : Nat, Rdr wr R s k ∧ But [R] w wr ∧ k ≤ s.size ∧ Hid (rn p s.data.toList a = rn p s.data.toList k)) (fun wr => s.size - atOf R wr)
        case atStart => exact ⟨a, hr1, hbw, ha, Lib.hid rfl⟩
        case round =>
          obtain ⟨k, hr, hb, hk, hK⟩ := hrel
          obtain ⟨d0, d1, dz⟩ := hr.cells
          have hm := hr.at
          have HRk := Lib.hid hr
          by_cases hlk : k < s.size
          · obtain ⟨d, hd, hgd⟩ : ∃ d : UInt8, s.data.toList[k]? = some d ∧ s[k]'hlk = d := ⟨_, get_eq s k hlk, rfl⟩
            have t1 : decide ((k : Int) < (s.size : Int)) = true := by simp; omega
            have hidx : decide (0 ≤ Lib.indexByte of d) = p d := by
              have := HOF.out d
              by_cases e : Lib.indexByte of d < 0
              · simp [e] at this; simp [this]; omega
              · simp [e] at this; rw [this]; simp; omega
            have hcc : ((d.toNat : Int)).toNat.toUInt8 = d := by simp
            cases hp : p d
            · rw [hp] at hidx
              have hst : rn p s.data.toList k = k := rn_stop (fun c hc => by rw [hd] at hc; cases hc; exact hp)
              have HST := Lib.hid (hK.out.trans hst)
              clear hst hd hr hp
              go_wp2_with fail
              go_quiet ((go_at_call 88; exact Calls.quiet_of_same (Tryz.strings_IndexByte _ _ _)))
              go_wp2_with fail
              go_end0
              exact ⟨hb.drewN nq, .inl ⟨k, by rw [HDG.out, HST.out], rfl, HRk.out.keep ((But.refl [] wr).drewN nq) (by simp)⟩⟩
            · rw [hp] at hidx
              have hst : rn p s.data.toList k = rn p s.data.toList (k + 1) := rn_step hd hp
              have HST := Lib.hid (hK.out.trans hst)
              have e1 : IntKind.i64.wrap ((k : Int) + 1) = (k : Int) + 1 := by rw [IntKind.wrap_i64]; omega
              clear hst hd hr hp
              go_wp2_with fail
              go_quiet ((go_at_call 88; exact Calls.quiet_of_same (Tryz.strings_IndexByte _ _ _)))
              have hrq := HRk.out.keep ((But.refl [] wr).drewN nq) (by simp)
              obtain ⟨z0, z1, z2⟩ := hrq.cells
              go_wp2_with fail
              refine ⟨⟨k + 1, hrq.step (k + 1), (hb.drewN nq).setCell _ _ (.inl (by simp)), by omega, HST⟩, ?_⟩
              have := (hrq.step (k + 1)).at
              rw [hm]
              show s.size - atOf R ((wr.drewN nq).setCell ⟨R, 1, none⟩ (.int .i64 ((k + 1 : Nat) : Int))) < _
              rw [this]; omega
          · have t1 : decide ((k : Int) < (s.size : Int)) = false := by simp; omega
            have hst : rn p s.data.toList k = k := rn_stop (fun c hc => by rw [List.getElem?_eq_none (by simpa using hlk)] at hc; cases hc)
            have HST := Lib.hid (hK.out.trans hst)
            clear hst hr
            go_wp2_with fail
            go_quiet (fail)
            go_wp2_with fail
            go_end0
            exact ⟨hb.drewN nq, .inl ⟨k, by rw [HDG.out, HST.out], rfl, HRk.out.keep ((But.refl [] wr).drewN nq) (by simp)⟩⟩
  · have hdg : dg p s.data.toList a = (false, a) := by unfold dg; rw [List.getElem?_eq_none (by simpa using hlt)]
    have t1 : decide ((s.size : Int) ≤ (a : Int)) = true := by simp; omega
    have HDG := Lib.hid hdg
    have HR := Lib.hid h
    clear hdg h
    go_enter Tryz.func70, Tryz.ntmps70
    go_wp2_with fail
    go_quiet (fail)
    go_wp2_with (go_at_call 58; refine (fail_any R a s _ (HR.out.keep ((But.refl [] w).drewN _) (by simp))).mono ?_; rintro e w2 ⟨he, rfl⟩; subst he; simp only [Fa])
    exact ⟨rfl, (But.refl _ _).drewN _, .inr ⟨a, HDG.out, rfl⟩⟩
end Go.Proofs.YtnghppgpdeghfaaGreatDoor
