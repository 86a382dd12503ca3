/- A stream in memory; (*Stream).clean. -/
import Derived.Test.YtnmpofjegepmaaaG9
namespace Go.Proofs.Ytnmpofjegepmaaa
open Go.RowKit Go.Proofs.Ytnmpofjegepmaaa.Fl Go.Proofs.Ytnmpofjegepmaaa.Pt

set_option linter.unusedSimpArgs false in
set_option maxHeartbeats 1000000 in
set_option maxRecDepth 100000 in
theorem sclean_any (d : Nat) (G S Q N : Value) (f c m : Bool) (ch : Nat) (a : C) (ha : wf a) (w : World) (hb : w.heap[d]? = some (.cells #[G, S, .bool f, .bool c, .bool m, Q, N, .int .u64 (ch : Int)] 120 (0, 0))) :
    Calls Try.prog 108 #[.pointer (some ⟨d, 0, none⟩), .complex .f64 a.1 a.2] w fun e w' => e = .returned (.complex .f64 (clF f c m a.1) (clF f c m a.2)) ∧ But [d] w w' ∧ w'.heap[d]? = some (.cells #[G, S, .bool f, .bool c, .bool m, Q, N, .int .u64 ((cnt ch (clN f c m a) : Nat) : Int)] 120 (0, 0)) := by
  obtain ⟨a1, a2⟩ := ha
  have c3 : w.cell? ⟨d, 2, none⟩ = some (.bool f) := by rw [cell_of_row w d 2 _ _ _ hb]; rfl
  have c4 : w.cell? ⟨d, 3, none⟩ = some (.bool c) := by rw [cell_of_row w d 3 _ _ _ hb]; rfl
  have c5 : w.cell? ⟨d, 4, none⟩ = some (.bool m) := by rw [cell_of_row w d 4 _ _ _ hb]; rfl
  have HB := Lib.hid hb
  clear hb
  go_enter Try.func108, Try.ntmps108
  go_wp2_with fail
  refine (cleanc_any f c m a.1 a.2 a1 a2 _).mono ?_
  rintro e w1 ⟨rfl, hb1⟩
  have hbk := hb1.heap HB.out (by simp)
  have c6 : w1.cell? ⟨d, 7, none⟩ = some (.int .u64 (ch : Int)) := by rw [cell_of_row w1 d 7 _ _ _ hbk]; rfl
  have cz : w1.frozen? ⟨d, 7, none⟩ = false := blk_free hbk
  have HB1 := Lib.hid hbk
  clear c3 c4 c5 hbk
  have hl := clN_le f c m a
  generalize hn : clN f c m (a.1, a.2) = n at *
  have hn' : clN f c m a = n := hn
  have HN := Lib.hid hn'
  clear hn hn'
  have hw : IntKind.u64.wrap ((ch : Int) + n) = ((cnt ch n : Nat) : Int) := by rw [IntKind.wrap_u64]; unfold cnt; omega
  go_wp2_with fail
  go_ret
  refine ⟨rfl, (hb1.weak (by simp)).setCell _ _ (.inl (by simp)), ?_⟩
  rw [HN.out, blk_set _ _ _ _ _ _ HB1.out]; rfl

/-- A stream lies at d: its filter's sections at p, its states at q. -/
structure Stm (w : World) (d p q n : Nat) (f c m : Bool) (at_ ch : Nat) (g : C) (Sc St : Nat → C) : Prop where
  n16 : n ≤ 16
  blk : ∃ (gr : C) (k1 k2 : Nat), w.heap[d]? = some (.cells #[.complex .f64 gr.1 gr.2, .slice (some ⟨p, 0, none⟩) n k1, .bool f, .bool c, .bool m, .slice (some ⟨q, 0, none⟩) n k2, .int .u64 (at_ : Int), .int .u64 (ch : Int)] 120 (0, 0)) ∧ wf gr ∧ ccn gr = g
  sec : RC w p 0 (n * 5) Sc
  sta : OC w q 71 (n * 2) St
  pl : p < w.heap.size
  ne : d ≠ p ∧ d ≠ q ∧ p ≠ q
theorem Stm.dl {w : World} {d p q n : Nat} {f c m : Bool} {at_ ch : Nat} {g : C} {Sc St : Nat → C} (h : Stm w d p q n f c m at_ ch g Sc St) : d < w.heap.size := by
  obtain ⟨gr, k1, k2, hb, _⟩ := h.blk
  exact (Array.getElem?_eq_some_iff.1 hb).1
theorem Stm.ql {w : World} {d p q n : Nat} {f c m : Bool} {at_ ch : Nat} {g : C} {Sc St : Nat → C} (h : Stm w d p q n f c m at_ ch g Sc St) : q < w.heap.size := h.sta.lt
theorem Stm.keep {w w' : World} {d p q n : Nat} {f c m : Bool} {at_ ch : Nat} {g : C} {Sc St : Nat → C} {qs : List Nat} (h : Stm w d p q n f c m at_ ch g Sc St) (k : But qs w w') (h1 : d ∉ qs) (h2 : p ∉ qs) (h3 : q ∉ qs) : Stm w' d p q n f c m at_ ch g Sc St := by
  obtain ⟨gr, k1, k2, hb, r⟩ := h.blk
  exact ⟨h.n16, ⟨gr, k1, k2, k.heap hb h1, r⟩, h.sec.keep k h2, h.sta.keep k h3, Nat.lt_of_lt_of_le h.pl k.size, h.ne⟩
end Go.Proofs.Ytnmpofjegepmaaa
