/- text.Read. -/
import Derived.Test.YtnghppgpdeghfaaGreatDoorA17
namespace Go.Proofs.YtnghppgpdeghfaaGreatDoor
open Go.RowKit Go.Proofs.YtnghppgpdeghfaaGreatDoor.Fl Go.Proofs.YtnghppgpdeghfaaGreatDoor.Pt Go.Proofs.YtnghppgpdeghfaaGreatDoor.Tx

@[go_sem] theorem run_store_complex (P : Program) (w : World) (a : Addr) (m : Mode) (k : FloatKind) (x y : Nat) : (store a (.complex k x y) m).run P w = stored P w a (.complex k x y) m := run_store P w a _ m rfl
theorem nu_ok {R a c : Nat} {s : ByteArray} {W : World} (hs : s.size ≤ 65536) (ha : a ≤ s.size) (hR : 15 ≤ R) (h : Rdr W R s a) (hg : Gl W) (k : nu s.data.toList a = (true, c)) : Calls Tryz.prog 22 #[.pointer (some ⟨R, 0, none⟩)] W fun e w' => ∃ x y, e = .returned (.complex .f64 x y) ∧ (x < 18446744073709551616 ∧ y < 18446744073709551616 ∧ Is s.data.toList a (num x y) c) ∧ Rdr w' R s c ∧ But [R] W w' := by
  refine (number_any R a s hs ha hR W h hg).mono ?_
  rintro e w' ⟨h1, ⟨x, y, d, h2, h3, h4, h5, h6, h7⟩ | ⟨b, h2, h3⟩⟩
  · rw [k] at h2; cases h2
    exact ⟨x, y, h3, ⟨h5, h6, h7⟩, h4, h1⟩
  · rw [k] at h2; cases h2
theorem nu_no {R a c : Nat} {s : ByteArray} {W : World} (hs : s.size ≤ 65536) (ha : a ≤ s.size) (hR : 15 ≤ R) (h : Rdr W R s a) (hg : Gl W) (k : nu s.data.toList a = (false, c)) : Calls Tryz.prog 22 #[.pointer (some ⟨R, 0, none⟩)] W fun e w' => e = Fa c 12 ∧ But [R] W w' := by
  refine (number_any R a s hs ha hR W h hg).mono ?_
  rintro e w' ⟨h1, ⟨x, y, d, h2, h3, h4, h5, h6, h7⟩ | ⟨b, h2, h3⟩⟩
  · rw [k] at h2; cases h2
  · rw [k] at h2; cases h2
    exact ⟨h3, h1⟩
theorem nu_le {L : List UInt8} {a c : Nat} (k : nu L a = (true, c)) (ha : a ≤ L.length) : c ≤ L.length := by
  rcases pair (x := tk L [40] a) with ⟨b, k1⟩ | ⟨b, k1⟩
  · rcases pair (x := fo 44 L b) with ⟨d, k2⟩ | ⟨d, k2⟩
    · rw [nu_3 k1 k2 rfl] at k
      exact fo_le k (fo_le k2 (tk_le k1 ha))
    · rw [nu_2 k1 k2] at k; cases k
  · rw [nu_1 k1] at k; cases k
/-- What the variable of Read holds. -/
def CxA (C : Nat) (s : ByteArray) (c : Nat) (w : World) : Prop := ∃ x y, w.heap[C]? = some (.cells #[.complex .f64 x y] 22 (0, 0)) ∧ x < 18446744073709551616 ∧ y < 18446744073709551616 ∧ Is s.data.toList 0 (num x y) c
set_option linter.unusedSimpArgs false in
set_option maxRecDepth 100000 in
set_option maxHeartbeats 2000000 in
theorem rd1_ok (R C c : Nat) (s : ByteArray) (hs : s.size ≤ 65536) (hR : 15 ≤ R) (hn : R ≠ C) (W : World) (h : Rdr W R s 0) (hg : Gl W) (hC : W.heap[C]? = some (.cells #[.complex .f64 0 0] 22 (0, 0))) (k : nu s.data.toList 0 = (true, c)) :
    Calls Tryz.prog 21 #[.pointer (some ⟨R, 0, none⟩), .pointer (some ⟨C, 0, none⟩)] W fun e w' => But [R, C] W w' ∧ e = .returned (.tuple #[]) ∧ Rdr w' R s c ∧ CxA C s c w' := by
  have hk := nu_ok hs (Nat.zero_le _) hR h hg k
  clear h hg
  go_enter Tryz.func21, Tryz.ntmps21
  go_wp2_with (go_at_call 22; refine hk.mono ?_; rintro e w1 ⟨x, y, rfl, hx, hr, hb⟩; have bC := hb.heap hC (by simp; omega); have cC : w1.cell? ⟨C, 0, none⟩ = some (.complex .f64 0 0) := (by rw [cell_of_row w1 C 0 _ _ _ bC]; rfl); have fC : w1.frozen? ⟨C, 0, none⟩ = false := blk_free bC)
  go_end0
  refine ⟨(hb.weak (by simp; omega)).setCell _ _ (.inl (by simp)), rfl, ?_, x, y, blk_set _ _ _ _ _ _ bC, hx.1, hx.2.1, hx.2.2⟩
  exact (Below.heap_setCell w1 ⟨C, 0, none⟩ (.complex .f64 x y) R hn).trans hr
set_option linter.unusedSimpArgs false in
set_option maxRecDepth 100000 in
set_option maxHeartbeats 2000000 in
theorem rd1_no (R C c : Nat) (s : ByteArray) (hs : s.size ≤ 65536) (hR : 15 ≤ R) (W : World) (h : Rdr W R s 0) (hg : Gl W) (k : nu s.data.toList 0 = (false, c)) :
    Calls Tryz.prog 21 #[.pointer (some ⟨R, 0, none⟩), .pointer (some ⟨C, 0, none⟩)] W fun e w' => But [R, C] W w' ∧ e = Fa c (12 : Nat) := by
  have hk := nu_no hs (Nat.zero_le _) hR h hg k
  clear h hg
  go_enter Tryz.func21, Tryz.ntmps21
  go_wp2_with (go_at_call 22; refine hk.mono ?_; rintro e w1 ⟨he, hb⟩; subst he; simp only [Fa])
  exact ⟨rfl, hb.weak (by simp; omega), rfl⟩

/-- The fault's errno, the place: what Read answers. -/
abbrev RdE (x y : Nat) (b c : Nat) : Ending := .returned (.tuple #[.complex .f64 x y, .int .i64 (b : Int), .int .i64 (c : Int)])
set_option linter.unusedSimpArgs false in
set_option maxRecDepth 100000 in
set_option maxHeartbeats 2000000 in
theorem Read_fault (s : ByteArray) (W : World) (b n : Nat) (hn : ((n : Int) != 0) = true) (hr : ∀ C w, But [] W w → C < w.heap.size → w.heap[C]? = some (.cells #[.complex .f64 0 0] 22 (0, 0)) → 15 ≤ C → Calls Tryz.prog 20 #[.string s, .func (Fn.func 21) #[] #[.pointer (some ⟨C, 0, none⟩)]] w fun e w' => e = RdA b n ∧ But [C] w w') (hg : Gl W) :
    Calls Tryz.prog 7 #[.string s] W fun e w' => e = RdE 0 0 b n ∧ But [] W w' := by
  have hmf : ∀ (fn : Fn) (first cap : Array Value) (w : World), (Instr.makeFunc fn first cap).run Tryz.prog w = .ok (.func fn first cap) w := fun _ _ _ _ => rfl
  obtain ⟨U, hU⟩ : ∃ U, U = W.alloc (.cells #[.complex .f64 0 0] 22) := ⟨_, rfl⟩
  have u0 : But [] W U := hU ▸ (But.refl [] W).alloc _
  have uS : U.heap.size = W.heap.size + 1 := by rw [hU]; simp
  have uA : U.heap[W.heap.size]? = some (.cells #[.complex .f64 0 0] 22 (0, 0)) := by rw [hU]; show (W.heap.push _)[_]? = _; exact Array.getElem?_push_size
  have hk := hr W.heap.size U u0 (by omega) uA hg.size
  clear hr hg
  go_enter Tryz.func7, Tryz.ntmps7
  go_wp2_with (go_at_call 20; rw [← hU]; refine hk.mono ?_; rintro e w1 ⟨rfl, hb⟩)
  refine bodyPost_ret (results_tmp3 rfl _ _ _) rfl ?_
  exact ⟨rfl, u0.then hb (by simp; omega)⟩
set_option linter.unusedSimpArgs false in
set_option maxRecDepth 100000 in
set_option maxHeartbeats 2000000 in
theorem Read_fine (s : ByteArray) (W : World) (hr : ∀ C w, But [] W w → C < w.heap.size → w.heap[C]? = some (.cells #[.complex .f64 0 0] 22 (0, 0)) → 15 ≤ C → Calls Tryz.prog 20 #[.string s, .func (Fn.func 21) #[] #[.pointer (some ⟨C, 0, none⟩)]] w fun e w' => e = RdA 0 0 ∧ But [C] w w' ∧ CxA C s s.size w') (hg : Gl W) :
    Calls Tryz.prog 7 #[.string s] W fun e w' => ∃ x y, e = RdE x y 0 0 ∧ (x < 18446744073709551616 ∧ y < 18446744073709551616 ∧ Is s.data.toList 0 (num x y) s.size) ∧ But [] W w' := by
  have hmf : ∀ (fn : Fn) (first cap : Array Value) (w : World), (Instr.makeFunc fn first cap).run Tryz.prog w = .ok (.func fn first cap) w := fun _ _ _ _ => rfl
  obtain ⟨U, hU⟩ : ∃ U, U = W.alloc (.cells #[.complex .f64 0 0] 22) := ⟨_, rfl⟩
  have u0 : But [] W U := hU ▸ (But.refl [] W).alloc _
  have uS : U.heap.size = W.heap.size + 1 := by rw [hU]; simp
  have uA : U.heap[W.heap.size]? = some (.cells #[.complex .f64 0 0] 22 (0, 0)) := by rw [hU]; show (W.heap.push _)[_]? = _; exact Array.getElem?_push_size
  have hk := hr W.heap.size U u0 (by omega) uA hg.size
  clear hr hg
  go_enter Tryz.func7, Tryz.ntmps7
  go_wp2_with (go_at_call 20; rw [← hU]; refine hk.mono ?_; rintro e w1 ⟨rfl, hb, x, y, hx⟩; have cC : w1.cell? ⟨W.heap.size, 0, none⟩ = some (.complex .f64 x y) := (by rw [cell_of_row w1 _ 0 _ _ _ hx.1]; rfl))
  refine bodyPost_ret (results_tmp3 rfl _ _ _) rfl ?_
  exact ⟨x, y, rfl, hx.2, u0.then hb (by simp; omega)⟩

theorem cxa_keep {C : Nat} {s : ByteArray} {c : Nat} {qs : List Nat} (hq : C ∉ qs) (w w' : World) (hb : But qs w w') (h : CxA C s c w) : CxA C s c w' := by
  obtain ⟨x, y, h1, h2⟩ := h
  exact ⟨x, y, hb.heap h1 hq, h2⟩
/-- Every Read. -/
theorem Read_any (s : ByteArray) (W : World) (hg : Gl W) : Calls Tryz.prog 7 #[.string s] W fun e w' => But [] W w' ∧
    ((65536 < s.size ∧ e = RdE 0 0 0 2) ∨ (s.size ≤ 65536 ∧ ∃ b, nu s.data.toList 0 = (false, b) ∧ e = RdE 0 0 b 12) ∨ (s.size ≤ 65536 ∧ ∃ c, c < s.size ∧ nu s.data.toList 0 = (true, c) ∧ e = RdE 0 0 c 12) ∨
      (s.size ≤ 65536 ∧ ∃ x y, nu s.data.toList 0 = (true, s.size) ∧ e = RdE x y 0 0 ∧ x < 18446744073709551616 ∧ y < 18446744073709551616 ∧ Is s.data.toList 0 (num x y) s.size)) := by
  by_cases hs : 65536 < s.size
  · refine (Read_fault s W 0 2 rfl (fun C w _ _ _ _ => (read_long s w _ hs).mono fun e w' h => ⟨h.1, h.2.weak (by simp)⟩) hg).mono ?_
    rintro e w' ⟨rfl, h⟩
    exact ⟨h, .inl ⟨hs, rfl⟩⟩
  have hs' : s.size ≤ 65536 := by omega
  rcases pair (x := nu s.data.toList 0) with ⟨c, k⟩ | ⟨b, k⟩
  · by_cases hc : c < s.size
    · refine (Read_fault s W c 12 rfl (fun C w hb hC hv hC2 => read_more C s w hs' hC c hc fun w2 hb2 _ hr => ?_) hg).mono ?_
      · refine (rd1_ok _ C c s hs' (by omega) (by omega) w2 hr ((hg.keep hb (by simp)).keep hb2 (by simp)) (hb2.heap hv (by simp)) k).mono ?_
        rintro e w3 ⟨h1, h2, h3, _⟩
        exact ⟨h1, h2, h3⟩
      · rintro e w' ⟨rfl, h⟩
        exact ⟨h, .inr (.inr (.inl ⟨hs', c, hc, k, rfl⟩))⟩
    · have hcl : c = s.size := by
        have := nu_le k (Nat.zero_le _)
        simp at this; omega
      subst hcl
      refine (Read_fine s W (fun C w hb hC hv hC2 => read_ok C s w hs' hC (CxA C s s.size) (cxa_keep (by simp; omega)) s.size hc fun w2 hb2 _ hr => ?_) hg).mono ?_
      · exact rd1_ok _ C _ s hs' (by omega) (by omega) w2 hr ((hg.keep hb (by simp)).keep hb2 (by simp)) (hb2.heap hv (by simp)) k
      · rintro e w' ⟨x, y, rfl, hx, h⟩
        exact ⟨h, .inr (.inr (.inr ⟨hs', x, y, k, rfl, hx⟩))⟩
  · refine (Read_fault s W b 12 rfl (fun C w hb hC hv hC2 => read_no C s w hs' hC b 12 fun w2 hb2 _ hr => ?_) hg).mono ?_
    · exact rd1_no _ C b s hs' (by omega) w2 hr ((hg.keep hb (by simp)).keep hb2 (by simp)) k
    · rintro e w' ⟨rfl, h⟩
      exact ⟨h, .inr (.inl ⟨hs', b, k, rfl⟩)⟩
end Go.Proofs.YtnghppgpdeghfaaGreatDoor
