/- SameAll, SameZpk. (*strings.Builder).WriteString in this cut. text.finite, text.list. text.Zpk of a filter that a text said. How a filter by sections is read. -/
import Derived.Test.YtnghppgpdeghfaaGreatDoorZf22
import Derived.Test.YtnghppgpdeghfaaGreatDoorZf5
namespace Go.Proofs.YtnghppgpdeghfaaGreatDoor
open Go.RowKit Go.Proofs.YtnghppgpdeghfaaGreatDoor.Fl Go.Proofs.YtnghppgpdeghfaaGreatDoor.Pt Go.Proofs.YtnghppgpdeghfaaGreatDoor.Tx

def kOf : Value → Nat
  | .int _ k => k.toNat
  | _ => 0
theorem OZ.nilF {w : World} {B : Nat} {v : Value} {l : List (Nat × Nat)} (h : OZ w B v l) (h0 : l.length = 0) : ∃ p cap, v = .slice p 0 cap := by
  rcases h.form with ⟨rfl, _⟩ | ⟨g, cap, cur, rfl, _⟩
  · exact ⟨_, _, rfl⟩
  · exact ⟨_, _, by rw [h0]⟩
theorem OZ.someF {w : World} {B : Nat} {v : Value} {l : List (Nat × Nat)} (h : OZ w B v l) (h0 : ¬ l.length = 0) : ∃ g cap, v = .slice (some ⟨g, 0, none⟩) l.length cap ∧ l.length ≤ cap ∧ ∀ (j : Nat) (b : Nat × Nat), l[j]? = some b → w.cell? ⟨g, j, none⟩ = some (.complex .f64 b.1 b.2) := by
  rcases h.form with ⟨rfl, h1⟩ | ⟨g, cap, cur, rfl, h1, h2, h3, h4⟩
  · rw [h1] at h0; simp at h0
  · exact ⟨g, cap, rfl, h3, h4⟩
set_option linter.unusedSimpArgs false in
set_option maxRecDepth 100000 in
set_option maxHeartbeats 2000000 in
theorem sall_true (v1 v2 : Value) (B1 B2 : Nat) (l m : List (Nat × Nat)) (he : eqL l m) (hl : ∀ p ∈ l, Wf p) (hm : ∀ p ∈ m, Wf p) (h63 : l.length ≤ 1000) (w : World) (h1 : OZ w B1 v1 l) (h2 : OZ w B2 v2 m) :
    Calls Tryz.prog 36 #[v1, v2] w fun e w' => e = .returned (.bool true) ∧ But [] w w' := by
  have hn := he.len
  by_cases h0 : l.length = 0
  · obtain ⟨p1, c1, rfl⟩ := h1.nilF h0
    obtain ⟨p2, c2, rfl⟩ := h2.nilF (by omega)
    clear h1 h2 he hl hm
    go_enter Tryz.func36, Tryz.ntmps36
    go_wp2_with fail
    refine wp_loop_rounds 1 ?_
    rw [rounds_succ]
    go_wp2_with fail
    go_ret
    exact ⟨rfl, But.refl _ _⟩
  · obtain ⟨g1, c1, rfl, hc1, ha⟩ := h1.someF h0
    obtain ⟨g2, c2, rfl, hc2, hb⟩ := h2.someF (by omega)
    rw [← hn]
    have HE := Lib.hid he
    have HL := Lib.hid hl
    have HM := Lib.hid hm
    have HA := Lib.hid ha
    have HB := Lib.hid hb
    have HN := Lib.hid hn
    obtain ⟨n, hnn⟩ : ∃ n, n = l.length := ⟨_, rfl⟩
    rw [← hnn] at h0 h63 ⊢
    have HNN := Lib.hid hnn
    clear h1 h2 he hl hm ha hb hn hnn hc1 hc2
    go_enter Tryz.func36, Tryz.ntmps36
    go_wp2_with fail
    go_loopw [13] (fun i wr => ∃ k : Nat, k ≤ n ∧ i = .int .i64 k ∧ But [] w wr) (fun i _ => n - kOf i)
    case atStart => exact ⟨0, Nat.zero_le _, rfl, But.refl _ _⟩
    case round =>
      obtain ⟨k, hk, rfl, hbt⟩ := hrel
      by_cases hlt : k < n
      · have hx0 := List.getElem?_eq_getElem (l := l) (i := k) (by have := HNN.out; omega)
        have hy0 := List.getElem?_eq_getElem (l := m) (i := k) (by have := HNN.out; have := HN.out; omega)
        obtain ⟨⟨x, x2⟩, hxv⟩ : ∃ p, l[k]? = some p := ⟨_, hx0⟩
        obtain ⟨⟨y, y2⟩, hyv⟩ : ∃ p, m[k]? = some p := ⟨_, hy0⟩
        have wx := HL.out _ (List.mem_of_getElem? hxv)
        have wy := HM.out _ (List.mem_of_getElem? hyv)
        have hq := HE.out.at k _ _ hxv hyv
        have hx := hbt.cell (HA.out k _ hxv) (by simp)
        have hy := hbt.cell (HB.out k _ hyv) (by simp)
        have HQ := Lib.hid hq
        have WX := Lib.hid wx
        have WY := Lib.hid wy
        have t1 : (k : Int) < n := by omega
        clear hx0 hy0 hxv hyv wx wy hq
        simp only at hx hy
        go_wp2_with fail
        go_quiet ((go_at_call 10; exact Calls.quiet_of_same (same_c x x2 y y2 WX.out.1 WX.out.2 WY.out.1 WY.out.2 HQ.out.1 HQ.out.2 _)))
        go_wp2_with fail
        exact ⟨⟨k + 1, by omega, by go_num, hbt.drewN nq⟩, by simp [kOf]; omega⟩
      · go_wp2_with fail
        go_ret
        exact ⟨rfl, hbt⟩
set_option linter.unusedSimpArgs false in
set_option maxRecDepth 100000 in
set_option maxHeartbeats 2000000 in
theorem szpk_true (x y x2 y2 : Nat) (hg1 : Wf (x, y)) (hg2 : Wf (x2, y2)) (hq : eqC (x, y) (x2, y2)) (pz : Option Addr) (nz kz : Nat) (pp : Option Addr) (np kp : Nat) (qz : Option Addr) (mz jz : Nat) (qp : Option Addr) (mp jp : Nat) (B1 B2 : Nat) (zs ps ys qs : List (Nat × Nat)) (W : World)
    (wz : ∀ p ∈ zs, Wf p) (wp : ∀ p ∈ ps, Wf p) (wy : ∀ p ∈ ys, Wf p) (wq : ∀ p ∈ qs, Wf p) (nz0 : zs.length ≤ 1000) (np0 : ps.length ≤ 1000) (ez : eqL zs ys) (ep : eqL ps qs)
    (h1 : OZ W B1 (.slice pz nz kz) zs) (h2 : OZ W B1 (.slice pp np kp) ps) (h3 : OZ W B2 (.slice qz mz jz) ys) (h4 : OZ W B2 (.slice qp mp jp) qs) :
    Calls Tryz.prog 15 #[.agg #[.slice pz nz kz, .slice pp np kp, .complex .f64 x y], .agg #[.slice qz mz jz, .slice qp mp jp, .complex .f64 x2 y2]] W fun e w' => e = .returned (.bool true) ∧ But [] W w' := by
  obtain ⟨U, hU⟩ : ∃ U, U = (W.alloc (.cells #[.slice pz nz kz, .slice pp np kp, .complex .f64 x y] 35)).alloc (.cells #[.slice qz mz jz, .slice qp mp jp, .complex .f64 x2 y2] 35) := ⟨_, rfl⟩
  have u0 : But [] W U := hU ▸ ((But.refl [] W).alloc _).alloc _
  have uA : U.heap[W.heap.size]? = some (.cells #[.slice pz nz kz, .slice pp np kp, .complex .f64 x y] 35 (0, 0)) := by rw [hU]; exact a2_0 _ _ _
  have uB : U.heap[W.heap.size + 1]? = some (.cells #[.slice qz mz jz, .slice qp mp jp, .complex .f64 x2 y2] 35 (0, 0)) := by rw [hU]; exact a2_1 _ _ _
  have H1 := Lib.hid (h1.keep u0 (by simp))
  have H2 := Lib.hid (h2.keep u0 (by simp))
  have H3 := Lib.hid (h3.keep u0 (by simp))
  have H4 := Lib.hid (h4.keep u0 (by simp))
  have EZ := Lib.hid ez
  have EP := Lib.hid ep
  clear h1 h2 h3 h4 ez ep
  go_enter Tryz.func15, Tryz.ntmps15
  have tok : True := trivial
  go_wp2_with (go_at_call 36; rw [← hU]; have _t := tok; clear tok; refine (sall_true _ _ B1 B2 zs ys EZ.out wz wy nz0 U H1.out H3.out).mono ?_; rintro e w1 ⟨rfl, hb1⟩; have a1 := hb1.heap uA (by simp); have b1 := hb1.heap uB (by simp); have ca : w1.cell? ⟨W.heap.size, 1, none⟩ = some (.slice pp np kp) := (by rw [cell_of_row w1 _ 1 _ _ _ a1]; rfl); have cb : w1.cell? ⟨W.heap.size + 1, 1, none⟩ = some (.slice qp mp jp) := (by rw [cell_of_row w1 _ 1 _ _ _ b1]; rfl))
  have tok : True := trivial
  go_wp2_with (go_at_call 36; have _t := tok; clear tok; refine (sall_true _ _ B1 B2 ps qs EP.out wp wq np0 w1 (H2.out.keep hb1 (by simp)) (H4.out.keep hb1 (by simp))).mono ?_; rintro e w2 ⟨rfl, hb2⟩; have a2 := hb2.heap a1 (by simp); have b2 := hb2.heap b1 (by simp); have da : w2.cell? ⟨W.heap.size, 2, none⟩ = some (.complex .f64 x y) := (by rw [cell_of_row w2 _ 2 _ _ _ a2]; rfl); have db : w2.cell? ⟨W.heap.size + 1, 2, none⟩ = some (.complex .f64 x2 y2) := (by rw [cell_of_row w2 _ 2 _ _ _ b2]; rfl))
  have tok : True := trivial
  go_wp2_with (go_at_call 10; have _t := tok; clear tok; refine (same_c x y x2 y2 hg1.1 hg1.2 hg2.1 hg2.2 hq.1 hq.2 _).mono ?_; rintro e w3 ⟨rfl, hw3⟩; rw [hw3]; clear hw3 w3)
  go_ret
  exact ⟨rfl, (u0.trans hb1).trans hb2⟩
end Go.Proofs.YtnghppgpdeghfaaGreatDoor
namespace Go.Proofs.YtnghppgpdeghfaaGreatDoor
open Go.RowKit

theorem x82 : Builder.X72 Tryz.prog Tryz.lays169_ren := Tryz.Builder_Extra_169.toX72
set_option maxHeartbeats 1000000 in
set_option maxRecDepth 100000 in
theorem cc_used (b : Nat) (w : World) (h0 : w.cell? ⟨b, 0, none⟩ = some (.pointer (some ⟨b, 0, none⟩))) :
    Calls Tryz.prog 60 #[.pointer (some ⟨b, 0, none⟩)] w fun e w' => e = .returned (.tuple #[]) ∧ w' = w := by
  obtain ⟨j, hj, _⟩ := Option.map_eq_some_iff.1 x82.sizeBuilder
  go_enter Tryz.func60, Tryz.ntmps60
  go_wp2
  rw [Lib.run_neq_ptr_same w _ Tryz.underlying80 hj]
  go_wp2
  go_end0
  exact ⟨rfl, rfl⟩
set_option maxHeartbeats 1000000 in
set_option maxRecDepth 100000 in
theorem cc_fresh (b : Nat) (w : World) (h0 : w.cell? ⟨b, 0, none⟩ = some (.pointer none)) (hsh : w.shape? b = some (82, 2)) (hfz : w.frozen? ⟨b, 0, none⟩ = false) :
    Calls Tryz.prog 60 #[.pointer (some ⟨b, 0, none⟩)] w fun e w' => e = .returned (.tuple #[]) ∧ w' = w.setCell ⟨b, 0, none⟩ (.pointer (some ⟨b, 0, none⟩)) := by
  obtain ⟨j, hj, hjs⟩ := Option.map_eq_some_iff.1 x82.sizeBuilder
  go_enter Tryz.func60, Tryz.ntmps60
  go_wp2
  rw [Lib.run_to_unsafe w ⟨b, 0, none⟩ Tryz.underlying80 Tryz.underlying115 hj (by rw [hjs]; decide) hsh (Nat.zero_lt_succ 1)]
  simp only [Result.andThen]
  rw [Oper.upon_value]
  go_wp2
  rw [run_callFunc_extern Tryz.func69 (by kernel_rfl) (by kernel_rfl) (by kernel_rfl) (e := Extern.AbiNoEscape.same) (by kernel_rfl)]
  rw [Lib.run_noEscape]
  simp only [Result.andThen]
  rw [Oper.upon_value]
  go_wp2
  rw [Lib.run_from_unsafe w ⟨b, 0, none⟩ Tryz.underlying115 Tryz.underlying80 hj hsh x82.liesBuilder]
  simp only [Result.andThen]
  rw [Oper.upon_value]
  go_wp2
  go_end0
  exact ⟨rfl, rfl⟩
theorem copyCheck_any (B b : Nat) (bs : List Value) (w : World) (h : Lib.IsBuilder 82 5 B b bs w) :
    Calls Tryz.prog 60 #[.pointer (some ⟨b, 0, none⟩)] w fun e w' => e = .returned (.tuple #[]) ∧ (Lib.BuilderAt 82 5 B b (.pointer (some ⟨b, 0, none⟩)) bs w' ∧ Below B w w') := by
  rcases h with h | h
  · refine (cc_fresh b w h.cell0 h.shape h.frozen0).mono ?_
    rintro e w' ⟨rfl, rfl⟩
    exact ⟨rfl, h.used _, (Below.refl B w).setCell (p := ⟨b, 0, none⟩) h.1 _⟩
  · refine (cc_used b w h.cell0).mono ?_
    rintro e w' ⟨rfl, rfl⟩
    exact ⟨rfl, h, Below.refl B _⟩
set_option maxHeartbeats 1000000 in
set_option maxRecDepth 100000 in
theorem wrs_any (B b : Nat) (bs : List Value) (s : ByteArray) (w : World) (h : Lib.IsBuilder 82 5 B b bs w) (hlen : bs.length + s.size ≤ 140737488355328) (hBw : B ≤ w.heap.size) :
    Calls Tryz.prog 39 #[.pointer (some ⟨b, 0, none⟩), .string s] w fun e w' => e = .returned (.tuple #[.int .i64 s.size, .nilIface]) ∧ (Lib.BuilderAt 82 5 B b (.pointer (some ⟨b, 0, none⟩)) (bs ++ Lib.strCells s) w' ∧ Below B w w') := by
  obtain ⟨i0, hi, hz0, hz1, hz2⟩ := info_parts Tryz.Builder_Extra_169.infoByte
  go_enter Tryz.func39, Tryz.ntmps39
  go_wp2_with (go_at_call 60; refine (copyCheck_any B b bs _ h).mono ?_)
  rintro e w1 ⟨rfl, h1, hb1⟩
  obtain ⟨hB, v, hbk, hown, hne⟩ := h1
  have c0 : w1.cell? ⟨b, 0, none⟩ = some (.pointer (some ⟨b, 0, none⟩)) := by rw [Lib.cell_of_heap hbk]; rfl
  have c1 : w1.cell? ⟨b, 1, none⟩ = some v := by rw [Lib.cell_of_heap hbk]; rfl
  go_wp2_with (at_builtin; refine Lib.wpList_append_own_string _ rfl _ _ 32 9 rfl B 5 i0 Tryz.underlying32 Tryz.underlying9 hi hz0 hz1 hz2 _ _ _ rfl hown s rfl ?c3 ?c4 ?c5 ?_)
  case c3 => unfold maxLen; omega
  case c4 => omega
  case c5 => have := hb1.size; omega
  intro v' w2 hown' hgrow _
  have hlt : b < w1.heap.size := by
    rcases Nat.lt_or_ge b w1.heap.size with h' | h'
    · exact h'
    · simp [Array.getElem?_eq_none h'] at hbk
  have hb2 : w2.heap[b]? = some (.cells #[.pointer (some ⟨b, 0, none⟩), v] 82 (0, 0)) := by
    rw [hgrow.block b hlt (fun e => hne e.symm)]
    exact hbk
  have d0 : w2.cell? ⟨b, 0, none⟩ = some (.pointer (some ⟨b, 0, none⟩)) := by rw [Lib.cell_of_heap hb2]; rfl
  have d1 : w2.cell? ⟨b, 1, none⟩ = some v := by rw [Lib.cell_of_heap hb2]; rfl
  have f1 : w2.frozen? ⟨b, 1, none⟩ = false := Lib.frozen_of_heap hb2 1
  obtain ⟨ao, n', cap, rfl⟩ : ∃ ao n' cap, v' = .slice ao n' cap := by
    rcases hown'.2 with ⟨hv, _⟩ | ⟨g, cap, cur, hv, _⟩
    · exact ⟨_, _, _, hv⟩
    · exact ⟨_, _, _, hv⟩
  go_wp2
  go_ret2
  refine ⟨rfl, ?_, ?_⟩
  · exact Lib.BuilderAt.put (T := 82) (e := 5) hB hb2 (bs' := bs ++ Lib.strCells s) (by simpa [Lib.strCells_length] using hown') Tryz.Builder_Extra_169.neB5
  · exact (hb1.grown hgrow (by have := hb1.size; omega) (fun k hk => (hown.lt k hk).1)).setCell (p := ⟨b, 1, none⟩) hB _
end Go.Proofs.YtnghppgpdeghfaaGreatDoor
namespace Go.Proofs.YtnghppgpdeghfaaGreatDoor
open Go.RowKit Go.Proofs.YtnghppgpdeghfaaGreatDoor.Fl Go.Proofs.YtnghppgpdeghfaaGreatDoor.Pt Go.Proofs.YtnghppgpdeghfaaGreatDoor.Tx

theorem But.of_low {B : Nat} {a b : World} (h : Below B a b) : But (List.range' B (a.heap.size - B)) a b :=
  ⟨h.os, h.tape, h.output, h.size, fun i hi hq => h.block i (by
    rcases Nat.lt_or_ge i B with h1 | h1
    · exact h1
    · exact absurd (List.mem_range'_1.2 ⟨h1, by omega⟩) hq)⟩
theorem low_mem {B n q : Nat} (h : q ∈ List.range' B n) : B ≤ q := (List.mem_range'_1.1 h).1
theorem Gl.low {B : Nat} {w w' : World} (hg : Gl w) (h : Below B w w') (hB : 15 ≤ B) : Gl w' := hg.keep (But.of_low h) fun q hq => by have := low_mem hq; omega
theorem OZ.below {B B1 : Nat} {w w' : World} {v : Value} {l : List (Nat × Nat)} (h : OZ w B1 v l) (k : Below B w w') (hv : ∀ g, v.ownBlock = some g → g < B) : OZ w' B1 v l :=
  h.keep (But.of_low k) fun g hg hm => by have := low_mem hm; have := hv g hg; omega
theorem own_keep {w w' : World} {B : Nat} {v : Value} {n : Nat} {bs : List Value} (h : w.ownsRow B 5 1 v n bs) (k : But [] w w') : w'.ownsRow B 5 1 v n bs := by
  obtain ⟨hl, h1⟩ := h
  refine ⟨hl, ?_⟩
  rcases h1 with h1 | ⟨g, cap, cur, rfl, hb', hg, r⟩
  · exact .inl h1
  · exact .inr ⟨g, cap, cur, rfl, hb', k.heap hg (by simp), r⟩
theorem bld_keep {B b : Nat} {bs : List Value} {w w' : World} (h : Lib.IsBuilder 82 5 B b bs w) (k : But [] w w') : Lib.IsBuilder 82 5 B b bs w' := by
  rcases h with ⟨h1, v, h2, h3, h4⟩ | ⟨h1, v, h2, h3, h4⟩
  · exact .inl ⟨h1, v, k.heap h2 (by simp), own_keep h3 k, h4⟩
  · exact .inr ⟨h1, v, k.heap h2 (by simp), own_keep h3 k, h4⟩
theorem below_of_but {B : Nat} {w w' : World} (k : But [] w w') (hB : B ≤ w.heap.size) : Below B w w' := k.below.mono hB
theorem OZ.len {w : World} {B : Nat} {p : Option Addr} {n c : Nat} {l : List (Nat × Nat)} (h : OZ w B (.slice p n c) l) : n = l.length := by
  rcases h.form with ⟨h1, h2⟩ | ⟨g, cap, cur, h1, _⟩
  · injection h1 with _ h1 _; rw [h1, h2]; rfl
  · injection h1
theorem str_cells (l : List UInt8) : Lib.strCells (str l) = Lib.byteCells l := rfl
theorem num_len {x y : Nat} (hx : x < 18446744073709551616) (hy : y < 18446744073709551616) : (num x y).length ≤ 100 := by
  have l1 := fl_len hx
  have l2 := fl_len hy
  simp only [num, List.length_cons, List.length_append, List.length_nil]
  omega
set_option linter.unusedSimpArgs false in
set_option maxRecDepth 100000 in
set_option maxHeartbeats 2000000 in
theorem finl_true (v : Value) (B1 : Nat) (l : List (Nat × Nat)) (hl : ∀ p ∈ l, p.1 < 18446744073709551616 ∧ p.2 < 18446744073709551616 ∧ finB p.1 p.2 = true) (h63 : l.length ≤ 1000) (w : World) (h1 : OZ w B1 v l) :
    Calls Tryz.prog 38 #[v] w fun e w' => e = .returned (.bool true) ∧ But [] w w' := by
  by_cases h0 : l.length = 0
  · obtain ⟨p1, c1, rfl⟩ := h1.nilF h0
    clear h1 hl
    go_enter Tryz.func38, Tryz.ntmps38
    go_wp2_with fail
    refine wp_loop_rounds 1 ?_
    rw [rounds_succ]
    go_wp2_with fail
    go_ret
    exact ⟨rfl, But.refl _ _⟩
  · obtain ⟨g1, c1, rfl, hc1, ha⟩ := h1.someF h0
    have HL := Lib.hid hl
    have HA := Lib.hid ha
    obtain ⟨n, hnn⟩ : ∃ n, n = l.length := ⟨_, rfl⟩
    rw [← hnn] at h0 h63 ⊢
    have HNN := Lib.hid hnn
    clear h1 hl ha hnn hc1
    go_enter Tryz.func38, Tryz.ntmps38
    go_wp2_with fail
    go_loopw [7] (fun i wr => ∃ k : Nat, k ≤ n ∧ i = .int .i64 k ∧ But [] w wr) (fun i _ => n - kOf i)
    case atStart => exact ⟨0, Nat.zero_le _, rfl, But.refl _ _⟩
    case round =>
      obtain ⟨k, hk, rfl, hbt⟩ := hrel
      by_cases hlt : k < n
      · have hx0 := List.getElem?_eq_getElem (l := l) (i := k) (by have := HNN.out; omega)
        obtain ⟨⟨x, x2⟩, hxv⟩ : ∃ p, l[k]? = some p := ⟨_, hx0⟩
        have wx := HL.out _ (List.mem_of_getElem? hxv)
        have hx := hbt.cell (HA.out k _ hxv) (by simp)
        have WX := Lib.hid wx
        have t1 : (k : Int) < n := by omega
        clear hx0 hxv wx
        simp only at hx
        go_wp2_with (go_at_call 37; refine (finite_any x x2 WX.out.1 WX.out.2.1 _).mono ?_; rintro e w1 ⟨rfl, hw1⟩; rw [WX.out.2.2, ← hw1]; clear hw1 w1)
        exact ⟨⟨k + 1, by omega, by go_num, hbt⟩, by simp [kOf]; omega⟩
      · go_wp2_with fail
        go_ret
        exact ⟨rfl, hbt⟩
theorem lsT_take (l : List (Nat × Nat)) (k : Nat) (p : Nat × Nat) (h : l[k]? = some p) : lsT (l.take (k + 1)) = lsT (l.take k) ++ (32 :: num p.1 p.2) := by
  rw [List.take_add_one, h, Option.toList_some, lsT_snoc]
theorem lsT_take_le (l : List (Nat × Nat)) (k : Nat) : (lsT (l.take k)).length ≤ (lsT l).length := by
  have h : lsT l = lsT (l.take k) ++ lsT (l.drop k) := by rw [← lsT_append, List.take_append_drop]
  rw [h, List.length_append]; omega
set_option linter.unusedSimpArgs false in
set_option maxRecDepth 100000 in
set_option maxHeartbeats 2000000 in
theorem list_any (B b : Nat) (L0 : List UInt8) (v : Value) (B1 : Nat) (l : List (Nat × Nat)) (hl : ∀ p ∈ l, Wf p) (hlen : (L0 ++ lsT l).length ≤ 65536) (h63 : l.length ≤ 1000) (w : World) (hg : Gl w) (hB : 15 ≤ B) (hBw : B ≤ w.heap.size) (hb : Lib.IsBuilder 82 5 B b (Lib.byteCells L0) w) (h1 : OZ w B1 v l) (hv : ∀ g, v.ownBlock = some g → g < B) :
    Calls Tryz.prog 40 #[.pointer (some ⟨b, 0, none⟩), v] w fun e w' => e = .returned (.tuple #[]) ∧ Lib.IsBuilder 82 5 B b (Lib.byteCells (L0 ++ lsT l)) w' ∧ Below B w w' := by
  by_cases h0 : l.length = 0
  · obtain ⟨p1, c1, rfl⟩ := h1.nilF h0
    have hl0 : l = [] := List.eq_nil_of_length_eq_zero h0
    have HB := Lib.hid hb
    clear h1 hl hb
    go_enter Tryz.func40, Tryz.ntmps40
    go_wp2_with fail
    refine wp_loop_rounds 1 ?_
    rw [rounds_succ]
    go_wp2_with fail
    go_end0
    rw [hl0]
    exact ⟨rfl, by simpa [lsT] using HB.out, Below.refl _ _⟩
  · obtain ⟨g1, c1, rfl, hc1, ha⟩ := h1.someF h0
    have hgB := hv g1 rfl
    have HL := Lib.hid hl
    have HA := Lib.hid ha
    have HB := Lib.hid hb
    have HLEN := Lib.hid hlen
    obtain ⟨n, hnn⟩ : ∃ n, n = l.length := ⟨_, rfl⟩
    rw [← hnn] at h0 h63 ⊢
    have HNN := Lib.hid hnn
    have HG := hg
    clear h1 hl ha hnn hc1 hb hlen hv hg
    go_enter Tryz.func40, Tryz.ntmps40
    go_wp2_with fail
    go_loopw [8] (fun i wr => ∃ k : Nat, k ≤ n ∧ i = .int .i64 k ∧ Hid (Lib.IsBuilder 82 5 B b (Lib.byteCells (L0 ++ lsT (l.take k))) wr) ∧ Below B w wr) (fun i _ => n - kOf i)
    case atStart => exact ⟨0, Nat.zero_le _, rfl, Lib.hid (by simpa [lsT] using HB.out), Below.refl _ _⟩
    case round =>
      obtain ⟨k, hk, rfl, HI, hbt⟩ := hrel
      by_cases hlt : k < n
      · have hx0 := List.getElem?_eq_getElem (l := l) (i := k) (by have := HNN.out; omega)
        obtain ⟨⟨x, x2⟩, hxv⟩ : ∃ p, l[k]? = some p := ⟨_, hx0⟩
        have wx := HL.out _ (List.mem_of_getElem? hxv)
        have hx := (hbt.cell (p := ⟨g1, k, none⟩) hgB).trans (HA.out k _ hxv)
        have WX := Lib.hid wx
        have HXV := Lib.hid hxv
        have t1 : (k : Int) < n := by omega
        have hgr := HG.low hbt hB
        have ln := num_len wx.1 wx.2
        have en : (str (num x x2)).size = (num x x2).length := rfl
        have hs := hbt.size
        clear hx0 hxv wx
        simp only at hx ln
        have hle : (Lib.byteCells (L0 ++ lsT (l.take k))).length + 200 ≤ 140737488355328 := by
          rw [Lib.byteCells_length, List.length_append]
          have h1 := lsT_take_le l k
          have h2 := HLEN.out
          rw [List.length_append] at h2
          omega
        have hsz2 : (({ data := #[32] } : ByteArray) ++ str (num x x2)).size ≤ 200 := by rw [ByteArray.size_append, en]; show 1 + _ ≤ 200; omega
        go_wp2_with (first | (go_at_call 11; refine (write_any x x2 WX.out.1 WX.out.2 _ hgr).mono ?_; rintro e w1 ⟨rfl, hb1⟩; have hs1 := hb1.size) | (go_at_call 39; refine (wrs_any B b _ _ w1 (bld_keep HI.out hb1) (by omega) (by omega)).mono ?_; rintro e w2 ⟨rfl, hbu, hb2⟩))
        all_goals first | (exfalso; omega) | skip
        refine ⟨⟨k + 1, by omega, by go_num, Lib.hid (.inr ?_), (hbt.trans (below_of_but hb1 (by omega))).trans hb2⟩, by simp [kOf]; omega⟩
        rw [lsT_take l k _ HXV.out]
        have e : Lib.byteCells (L0 ++ (lsT (l.take k) ++ (32 :: num x x2))) = Lib.byteCells (L0 ++ lsT (l.take k)) ++ Lib.byteCells (32 :: num x x2) := by simp [Lib.byteCells]
        rw [e]
        exact hbu
      · have hkn : k = n := by omega
        subst hkn
        go_wp2_with fail
        go_end0
        refine ⟨rfl, ?_, hbt⟩
        have h2 := HI.out
        rw [HNN.out, List.take_length] at h2
        exact h2
end Go.Proofs.YtnghppgpdeghfaaGreatDoor
namespace Go.Proofs.YtnghppgpdeghfaaGreatDoor
open Go.RowKit Go.Proofs.YtnghppgpdeghfaaGreatDoor.Fl Go.Proofs.YtnghppgpdeghfaaGreatDoor.Pt Go.Proofs.YtnghppgpdeghfaaGreatDoor.Tx

theorem BC4 {W b : Nat} {x y : Nat} {p : Value} {w : World} (h : Lib.BuilderAt 82 5 W b p (Lib.byteCells [] ++ Lib.strCells ((({ data := #[122, 112, 107, 32] } : ByteArray) ++ str (num x y)) ++ { data := #[32, 124] })) w) : Lib.BuilderAt 82 5 W b p (Lib.byteCells (zpkT ++ num x y ++ [32, 124])) w := by
  have e : Lib.byteCells [] ++ Lib.strCells ((({ data := #[122, 112, 107, 32] } : ByteArray) ++ str (num x y)) ++ { data := #[32, 124] }) = Lib.byteCells (zpkT ++ num x y ++ [32, 124]) := by
    simp [Lib.byteCells, Lib.strCells, str, zpkT]
  rw [← e]; exact h
theorem BC6 {W b : Nat} {L : List UInt8} {p : Value} {w : World} (h : Lib.BuilderAt 82 5 W b p (Lib.byteCells L ++ Lib.strCells { data := #[32, 124] }) w) : Lib.BuilderAt 82 5 W b p (Lib.byteCells (L ++ [32, 124])) w := by
  have e : Lib.byteCells L ++ Lib.strCells { data := #[32, 124] } = Lib.byteCells (L ++ [32, 124]) := by
    simp [Lib.byteCells, Lib.strCells]
  rw [← e]; exact h
theorem own_lt {w : World} {B : Nat} {v : Value} {l : List (Nat × Nat)} (h : OZ w B v l) : ∀ g, v.ownBlock = some g → g < w.heap.size := fun g hg => (World.ownsRow.lt h g hg).2
set_option linter.unusedSimpArgs false in
set_option maxRecDepth 100000 in
set_option maxHeartbeats 2000000 in
theorem Zpk_ok (x y : Nat) (hw : Wf (x, y)) (hf : finB x y = true) (pz : Option Addr) (nz kz : Nat) (pp : Option Addr) (np kp : Nat) (zs ps : List (Nat × Nat)) (W : World) (hg : Gl W)
    (wz : ∀ p ∈ zs, p.1 < 18446744073709551616 ∧ p.2 < 18446744073709551616 ∧ finB p.1 p.2 = true) (wp : ∀ p ∈ ps, p.1 < 18446744073709551616 ∧ p.2 < 18446744073709551616 ∧ finB p.1 p.2 = true) (z24 : zs.length ≤ 24) (p24 : ps.length ≤ 24)
    (hlen : (zpkT ++ num x y ++ [32, 124] ++ lsT zs ++ [32, 124] ++ lsT ps).length ≤ 65536) (h1 : OZ W 0 (.slice pz nz kz) zs) (h2 : OZ W 0 (.slice pp np kp) ps) :
    Calls Tryz.prog 16 #[.agg #[.slice pz nz kz, .slice pp np kp, .complex .f64 x y]] W fun e w' => e = .returned (.tuple #[.string (str (zpkT ++ (num x y ++ 32 :: 124 :: (lsT zs ++ 32 :: 124 :: lsT ps)))), .int .i64 0]) ∧ But [] W w' := by
  have hsz := hg.size
  have n1 := h1.len
  have n2 := h2.len
  have t1 : decide ((nz : Int) > 24) = false := decide_eq_false (by omega)
  have t2 : decide ((np : Int) > 24) = false := decide_eq_false (by omega)
  have l3 := num_len hw.1 hw.2
  have en : (str (num x y)).size = (num x y).length := rfl
  simp only at l3
  have OWZ := Lib.hid (own_lt h1)
  have OWP := Lib.hid (own_lt h2)
  have WZ := Lib.hid (show ∀ p ∈ zs, Wf p from fun p hp => ⟨(wz p hp).1, (wz p hp).2.1⟩)
  have WP := Lib.hid (show ∀ p ∈ ps, Wf p from fun p hp => ⟨(wp p hp).1, (wp p hp).2.1⟩)
  have HL1 := Lib.hid (show (zpkT ++ num x y ++ [32, 124] ++ lsT zs).length ≤ 65536 by simp only [List.length_append] at hlen ⊢; omega)
  have HL2 := Lib.hid hlen
  have BS0 := Lib.hid (show (Lib.byteCells []).length + (({ data := #[122, 112, 107, 32] } : ByteArray) ++ str (num x y) ++ { data := #[32, 124] }).size ≤ 140737488355328 by rw [ByteArray.size_append, ByteArray.size_append, en]; show 0 + (4 + _ + 2) ≤ _; omega)
  have BS := Lib.hid (show (Lib.byteCells (zpkT ++ num x y ++ [32, 124] ++ lsT zs)).length + ({ data := #[32, 124] } : ByteArray).size ≤ 140737488355328 by rw [Lib.byteCells_length]; have := HL1.out; have e2 : ({ data := #[32, 124] } : ByteArray).size = 2 := rfl; omega)
  obtain ⟨U, hU⟩ : ∃ U, U = W.alloc (.cells #[.slice pz nz kz, .slice pp np kp, .complex .f64 x y] 35) := ⟨_, rfl⟩
  have u0 : But [] W U := hU ▸ (But.refl [] W).alloc _
  have uS : U.heap.size = W.heap.size + 1 := by rw [hU]; simp
  have uA : U.heap[W.heap.size]? = some (.cells #[.slice pz nz kz, .slice pp np kp, .complex .f64 x y] 35 (0, 0)) := by rw [hU]; show (W.heap.push _)[_]? = _; exact Array.getElem?_push_size
  have hgU := hg.keep u0 (by simp)
  have HZ := Lib.hid (h1.keep u0 (by simp))
  have HP := Lib.hid (h2.keep u0 (by simp))
  clear h1 h2 hlen n1 n2
  go_enter Tryz.func16, Tryz.ntmps16
  have tok : True := trivial
  go_wp2_with (go_at_call 37; have _t := tok; clear tok; refine (finite_any x y hw.1 hw.2 _).mono ?_; rintro e w0 ⟨rfl, hw0⟩; rw [hf, ← hw0]; clear hw0 w0)
  have tok : True := trivial
  go_wp2_with (go_at_call 38; (try rw [← hU]); have _t := tok; clear tok; refine (finl_true _ 0 zs wz (by omega) U HZ.out).mono ?_; rintro e w1 ⟨rfl, hb1⟩; have aw1 := hb1.heap uA (by simp); have p0w1 : w1.cell? ⟨W.heap.size, 0, none⟩ = some (.slice pz nz kz) := (by rw [cell_of_row w1 _ 0 _ _ _ aw1]; rfl); have p1w1 : w1.cell? ⟨W.heap.size, 1, none⟩ = some (.slice pp np kp) := (by rw [cell_of_row w1 _ 1 _ _ _ aw1]; rfl); have p2w1 : w1.cell? ⟨W.heap.size, 2, none⟩ = some (.complex .f64 x y) := (by rw [cell_of_row w1 _ 2 _ _ _ aw1]; rfl))
  have tok : True := trivial
  go_wp2_with (go_at_call 38; have _t := tok; clear tok; refine (finl_true _ 0 ps wp (by omega) w1 (HP.out.keep hb1 (by simp))).mono ?_; rintro e w2 ⟨rfl, hb2⟩; have aw2 := hb2.heap aw1 (by simp); have p0w2 : w2.cell? ⟨W.heap.size, 0, none⟩ = some (.slice pz nz kz) := (by rw [cell_of_row w2 _ 0 _ _ _ aw2]; rfl); have p1w2 : w2.cell? ⟨W.heap.size, 1, none⟩ = some (.slice pp np kp) := (by rw [cell_of_row w2 _ 1 _ _ _ aw2]; rfl); have p2w2 : w2.cell? ⟨W.heap.size, 2, none⟩ = some (.complex .f64 x y) := (by rw [cell_of_row w2 _ 2 _ _ _ aw2]; rfl); obtain ⟨V, hV⟩ : ∃ V, V = w2.alloc (.cells #[.pointer none, .slice none 0 0] 82) := ⟨_, rfl⟩; have v0 : But [] w2 V := hV ▸ (But.refl [] w2).alloc _; have vS : V.heap.size = w2.heap.size + 1 := (by rw [hV]; simp); have vB : V.heap[w2.heap.size]? = some (.cells #[.pointer none, .slice none 0 0] 82 (0, 0)) := (by rw [hV]; show (w2.heap.push _)[_]? = _; exact Array.getElem?_push_size); have vI : Lib.IsBuilder 82 5 w2.heap.size w2.heap.size (Lib.byteCells []) V := .inl ⟨Nat.le_refl _, _, vB, World.ownsRow_nil V _ _ _, by simp [Value.ownBlock]⟩; have hUV := (hb1.trans hb2).trans v0; have gV := hgU.keep hUV (by simp); have aV := hUV.heap uA (by simp); have p0V : V.cell? ⟨W.heap.size, 0, none⟩ = some (.slice pz nz kz) := (by rw [cell_of_row V _ 0 _ _ _ aV]; rfl); have p1V : V.cell? ⟨W.heap.size, 1, none⟩ = some (.slice pp np kp) := (by rw [cell_of_row V _ 1 _ _ _ aV]; rfl); have p2V : V.cell? ⟨W.heap.size, 2, none⟩ = some (.complex .f64 x y) := (by rw [cell_of_row V _ 2 _ _ _ aV]; rfl); have p2U : (w2.alloc (.cells #[.pointer none, .slice none 0 0] 82)).cell? ⟨W.heap.size, 2, none⟩ = some (.complex .f64 x y) := hV ▸ p2V; have HZV := Lib.hid (HZ.out.keep hUV (by simp)); have HPV := Lib.hid (HP.out.keep hUV (by simp)); have sz1 := hb1.size; have sz2 := hb2.size)
  have tok : True := trivial
  go_wp2_with (go_at_call 11; (try rw [← hV]); have _t := tok; clear tok; refine (write_any x y hw.1 hw.2 V gV).mono ?_; rintro e w3 ⟨rfl, hb3⟩; have sz3 := hb3.size)
  all_goals first | (exfalso; omega) | skip
  have tok : True := trivial
  go_wp2_with (go_at_call 39; have _t := tok; clear tok; refine (wrs_any w2.heap.size w2.heap.size _ _ w3 (bld_keep vI hb3) BS0.out (by omega)).mono ?_; rintro e w4 ⟨rfl, hi4, hb4⟩; have hVB4 : Below w2.heap.size V w4 := (below_of_but hb3 (by omega)).trans hb4; have hI4 : Lib.IsBuilder 82 5 w2.heap.size w2.heap.size (Lib.byteCells (zpkT ++ num x y ++ [32, 124])) w4 := (.inr (BC4 hi4)); clear hi4; have a4 : w4.heap[W.heap.size]? = some (.cells #[.slice pz nz kz, .slice pp np kp, .complex .f64 x y] 35 (0, 0)) := (hVB4.block _ (by omega)).trans aV; have q0 : w4.cell? ⟨W.heap.size, 0, none⟩ = some (.slice pz nz kz) := (by rw [cell_of_row w4 _ 0 _ _ _ a4]; rfl); have sz4 := hb4.size)
  have tok : True := trivial
  go_wp2_with (go_at_call 40; have _t := tok; clear tok; refine (list_any w2.heap.size w2.heap.size _ _ 0 zs WZ.out HL1.out (by omega) w4 (gV.low hVB4 (by omega)) (by omega) (by omega) hI4 (HZV.out.below hVB4 (fun g hg => by have := OWZ.out g hg; omega)) (fun g hg => by have := OWZ.out g hg; omega)).mono ?_; rintro e w5 ⟨rfl, hI5, hb5⟩; have hVB5 := hVB4.trans hb5; have sz5 := hb5.size)
  have tok : True := trivial
  go_wp2_with (go_at_call 39; have _t := tok; clear tok; refine (wrs_any w2.heap.size w2.heap.size _ _ w5 hI5 BS.out (by omega)).mono ?_; rintro e w6 ⟨rfl, hi6, hb6⟩; have hVB6 := hVB5.trans hb6; have hI6 : Lib.IsBuilder 82 5 w2.heap.size w2.heap.size (Lib.byteCells (zpkT ++ num x y ++ [32, 124] ++ lsT zs ++ [32, 124])) w6 := (.inr (BC6 hi6)); clear hi6; have a6 : w6.heap[W.heap.size]? = some (.cells #[.slice pz nz kz, .slice pp np kp, .complex .f64 x y] 35 (0, 0)) := (hVB6.block _ (by omega)).trans aV; have q1 : w6.cell? ⟨W.heap.size, 1, none⟩ = some (.slice pp np kp) := (by rw [cell_of_row w6 _ 1 _ _ _ a6]; rfl); have sz6 := hb6.size)
  have tok : True := trivial
  go_wp2_with (go_at_call 40; have _t := tok; clear tok; refine (list_any w2.heap.size w2.heap.size _ _ 0 ps WP.out HL2.out (by omega) w6 (gV.low hVB6 (by omega)) (by omega) (by omega) hI6 (HPV.out.below hVB6 (fun g hg => by have := OWP.out g hg; omega)) (fun g hg => by have := OWP.out g hg; omega)).mono ?_; rintro e w7 ⟨rfl, hI7, hb7⟩; have sz7 := hb7.size)
  have tok : True := trivial
  go_wp2_with (go_at_call 41; have _t := tok; clear tok; refine (Tryz.Builder_String_any w2.heap.size w2.heap.size _ w7 hI7 (by omega)).mono ?_; rintro e w8 ⟨rfl, hb8⟩)
  go_ret2
  refine ⟨rfl, ?_⟩
  have hA := ((hVB6.trans hb7).trans hb8)
  exact ⟨hA.os.trans (u0.trans hUV).os, hA.tape.trans (u0.trans hUV).tape, hA.output.trans (u0.trans hUV).output, Nat.le_trans (u0.trans hUV).size hA.size, fun i hi hq => (hA.block i (by omega)).trans ((u0.trans hUV).block i hi hq)⟩
end Go.Proofs.YtnghppgpdeghfaaGreatDoor
namespace Go.Proofs.YtnghppgpdeghfaaGreatDoor
open Go.RowKit Go.Proofs.YtnghppgpdeghfaaGreatDoor.Fl Go.Proofs.YtnghppgpdeghfaaGreatDoor.Pt Go.Proofs.YtnghppgpdeghfaaGreatDoor.Tx

open Classical in
/-- How k numbers are read, a blank ahead of each. -/
noncomputable def sn (L : List UInt8) : Nat → Nat → Bool × Nat × Nat
  | 0, a => (true, a, 0)
  | k + 1, a => match tk L [32] a with
    | (false, b) => (false, b, 12)
    | (true, b) => match nu L b with
      | (false, c) => (false, c, 12)
      | (true, c) => if FiN L b c then sn L k c else (false, b, 5)
section
variable {L : List UInt8} {k a b c n d e f : Nat}
theorem sn_0 : sn L 0 a = (true, a, 0) := by rw [sn]
theorem sn_sp (h1 : tk L [32] a = (false, b)) : sn L (k + 1) a = (false, b, 12) := by rw [sn, h1]
theorem sn_nu (h1 : tk L [32] a = (true, b)) (h2 : nu L b = (false, c)) : sn L (k + 1) a = (false, c, 12) := by simp only [sn, h1, h2]
theorem sn_nan (h1 : tk L [32] a = (true, b)) (h2 : nu L b = (true, c)) (h3 : ¬ FiN L b c) : sn L (k + 1) a = (false, b, 5) := by simp only [sn, h1, h2]; exact if_neg h3
theorem sn_next (h1 : tk L [32] a = (true, b)) (h2 : nu L b = (true, c)) (h3 : FiN L b c) : sn L (k + 1) a = sn L k c := by simp only [sn, h1, h2]; exact if_pos h3
end
theorem sn_err (L : List UInt8) : ∀ (k a b f : Nat), sn L k a = (false, b, f) → f = 12 ∨ f = 2 ∨ f = 5
  | 0, a, b, f, h => by rw [sn_0] at h; cases h
  | k + 1, a, b, f, h => by
    rcases pair (x := tk L [32] a) with ⟨c, k1⟩ | ⟨c, k1⟩
    · rcases pair (x := nu L c) with ⟨d, k2⟩ | ⟨d, k2⟩
      · by_cases hn : FiN L c d
        · rw [sn_next k1 k2 hn] at h; exact sn_err L k d b f h
        · rw [sn_nan k1 k2 hn] at h; cases h; exact .inr (.inr rfl)
      · rw [sn_nu k1 k2] at h; cases h; exact .inl rfl
    · rw [sn_sp k1] at h; cases h; exact .inl rfl
theorem sn_le (L : List UInt8) : ∀ (k a b f : Nat), a ≤ L.length → sn L k a = (true, b, f) → b ≤ L.length
  | 0, a, b, f, ha, h => by rw [sn_0] at h; cases h; exact ha
  | k + 1, a, b, f, ha, h => by
    rcases pair (x := tk L [32] a) with ⟨c, k1⟩ | ⟨c, k1⟩
    · rcases pair (x := nu L c) with ⟨d, k2⟩ | ⟨d, k2⟩
      · by_cases hn : FiN L c d
        · rw [sn_next k1 k2 hn] at h; exact sn_le L k d b f (nu_le k2 (tk_le k1 ha)) h
        · rw [sn_nan k1 k2 hn] at h; cases h
      · rw [sn_nu k1 k2] at h; cases h
    · rw [sn_sp k1] at h; cases h
theorem sn_zero (L : List UInt8) : ∀ (k a b f : Nat), sn L k a = (true, b, f) → f = 0
  | 0, a, b, f, h => by rw [sn_0] at h; cases h; rfl
  | k + 1, a, b, f, h => by
    rcases pair (x := tk L [32] a) with ⟨c, k1⟩ | ⟨c, k1⟩
    · rcases pair (x := nu L c) with ⟨d, k2⟩ | ⟨d, k2⟩
      · by_cases hn : FiN L c d
        · rw [sn_next k1 k2 hn] at h; exact sn_zero L k d b f h
        · rw [sn_nan k1 k2 hn] at h; cases h
      · rw [sn_nu k1 k2] at h; cases h
    · rw [sn_sp k1] at h; cases h
/-- How sections are read: n of them by now; the place, the error (0: none). -/
noncomputable def so (L : List UInt8) : Nat → Nat → Nat → Bool × Nat × Nat
  | 0, a, _ => (false, a, 0)
  | k + 1, a, n => if ¬ a < L.length then (true, a, 0) else
    match tk L [32] a with
    | (false, b) => (false, b, 12)
    | (true, b) => if L[b]? = some 124 ∧ n = 16 then (false, b, 2) else
      match tk L [124] b with
      | (false, c) => (false, c, 12)
      | (true, c) => match sn L 5 c with
        | (false, x) => (false, x)
        | (true, d, _) => so L k d (n + 1)
section
variable {L : List UInt8} {k a b c n d e f : Nat}
theorem so_end (h : ¬ a < L.length) : so L (k + 1) a n = (true, a, 0) := by rw [so, if_pos h]
theorem so_sp (h : a < L.length) (h1 : tk L [32] a = (false, b)) : so L (k + 1) a n = (false, b, 12) := by rw [so, if_neg (fun h' => h' h), h1]
theorem so_full (h : a < L.length) (h1 : tk L [32] a = (true, b)) (h2 : L[b]? = some 124 ∧ n = 16) : so L (k + 1) a n = (false, b, 2) := by
  rw [so, if_neg (fun h' => h' h), h1]; exact if_pos h2
theorem so_bar (h : a < L.length) (h1 : tk L [32] a = (true, b)) (h2 : ¬ (L[b]? = some 124 ∧ n = 16)) (h3 : tk L [124] b = (false, c)) : so L (k + 1) a n = (false, c, 12) := by
  rw [so, if_neg (fun h' => h' h), h1]; show (if _ then _ else _) = _; rw [if_neg h2, h3]
theorem so_bad (h : a < L.length) (h1 : tk L [32] a = (true, b)) (h2 : ¬ (L[b]? = some 124 ∧ n = 16)) (h3 : tk L [124] b = (true, c)) (h4 : sn L 5 c = (false, e, f)) : so L (k + 1) a n = (false, e, f) := by
  rw [so, if_neg (fun h' => h' h), h1]; show (if _ then _ else _) = _; rw [if_neg h2, h3]; show (match sn L 5 c with | (false, x) => (false, x) | (true, d, _) => so L k d (n + 1)) = _; rw [h4]
theorem so_next (h : a < L.length) (h1 : tk L [32] a = (true, b)) (h2 : ¬ (L[b]? = some 124 ∧ n = 16)) (h3 : tk L [124] b = (true, c)) (h4 : sn L 5 c = (true, d, f)) : so L (k + 1) a n = so L k d (n + 1) := by
  rw [so, if_neg (fun h' => h' h), h1]; show (if _ then _ else _) = _; rw [if_neg h2, h3]; show (match sn L 5 c with | (false, x) => (false, x) | (true, d, _) => so L k d (n + 1)) = _; rw [h4]
end
theorem so_err (L : List UInt8) : ∀ (k a n b f : Nat), n ≤ 16 → 17 ≤ n + k → so L k a n = (false, b, f) → f = 12 ∨ f = 2 ∨ f = 5
  | 0, a, n, b, f, h1, h2, h => by omega
  | k + 1, a, n, b, f, h1, h2, h => by
    by_cases he : a < L.length
    · rcases pair (x := tk L [32] a) with ⟨c, k1⟩ | ⟨c, k1⟩
      · by_cases hf : L[c]? = some 124 ∧ n = 16
        · rw [so_full he k1 hf] at h; cases h; exact .inr (.inl rfl)
        rcases pair (x := tk L [124] c) with ⟨d, k2⟩ | ⟨d, k2⟩
        · rcases trip (sn L 5 d) with ⟨e, g, k3⟩ | ⟨e, g, k3⟩
          · rw [so_next he k1 hf k2 k3] at h
            have h124 : L[c]? = some 124 := by
              by_cases h124 : L[c]? = some 124
              · exact h124
              · rw [tk, if_neg h124] at k2; cases k2
            exact so_err L k e (n + 1) b f (by have : n ≠ 16 := fun h => hf ⟨h124, h⟩; omega) (by omega) h
          · rw [so_bad he k1 hf k2 k3] at h; cases h; exact sn_err _ _ _ _ _ k3
        · rw [so_bar he k1 hf k2] at h; cases h; exact .inl rfl
      · rw [so_sp he k1] at h; cases h; exact .inl rfl
    · rw [so_end he] at h; cases h
theorem so_whole (L : List UInt8) : ∀ (k a n c f : Nat), so L k a n = (true, c, f) → ¬ c < L.length
  | 0, a, n, c, f, h => by rw [so] at h; cases h
  | k + 1, a, n, c, f, h => by
    by_cases he : a < L.length
    · rcases pair (x := tk L [32] a) with ⟨b, k1⟩ | ⟨b, k1⟩
      · by_cases hf : L[b]? = some 124 ∧ n = 16
        · rw [so_full he k1 hf] at h; cases h
        rcases pair (x := tk L [124] b) with ⟨d, k2⟩ | ⟨d, k2⟩
        · rcases trip (sn L 5 d) with ⟨e, g, k3⟩ | ⟨e, g, k3⟩
          · rw [so_next he k1 hf k2 k3] at h; exact so_whole L k e (n + 1) c f h
          · rw [so_bad he k1 hf k2 k3] at h; cases h
        · rw [so_bar he k1 hf k2] at h; cases h
      · rw [so_sp he k1] at h; cases h
    · rw [so_end he] at h; cases h; exact he
open Classical in
/-- How a whole such text is read. -/
noncomputable def fp (L : List UInt8) : Bool × Nat × Nat :=
  match tk L fltT 0 with
  | (false, b) => (false, b, 12)
  | (true, b) => match nu L b with
    | (false, c) => (false, c, 12)
    | (true, c) => if FiN L b c then so L 18 c 0 else (false, b, 5)
section
variable {L : List UInt8} {b c d e f : Nat}
theorem fp_1 (h1 : tk L fltT 0 = (false, b)) : fp L = (false, b, 12) := by rw [fp, h1]
theorem fp_2 (h1 : tk L fltT 0 = (true, b)) (h2 : nu L b = (false, c)) : fp L = (false, c, 12) := by simp only [fp, h1, h2]
theorem fp_3 (h1 : tk L fltT 0 = (true, b)) (h2 : nu L b = (true, c)) (h3 : ¬ FiN L b c) : fp L = (false, b, 5) := by simp only [fp, h1, h2]; rw [if_neg h3]
theorem fp_4 (h1 : tk L fltT 0 = (true, b)) (h2 : nu L b = (true, c)) (h3 : FiN L b c) : fp L = so L 18 c 0 := by simp only [fp, h1, h2]; rw [if_pos h3]
end
/-- The sections' texts. -/
def scT (l : List (List (Nat × Nat))) : List UInt8 := l.flatMap fun x => 32 :: 124 :: lsT x
theorem scT_snoc (l : List (List (Nat × Nat))) (x : List (Nat × Nat)) : scT (l ++ [x]) = scT l ++ (32 :: 124 :: lsT x) := by simp [scT]
/-- A section: five numbers. -/
def Sc5 (x : List (Nat × Nat)) : Prop := x.length = 5 ∧ ∀ p ∈ x, p.1 < 18446744073709551616 ∧ p.2 < 18446744073709551616 ∧ finB p.1 p.2 = true
theorem Sc5.wf {x : List (Nat × Nat)} (h : Sc5 x) : ∀ p ∈ x, Wf p := fun p hp => ⟨(h.2 p hp).1, (h.2 p hp).2.1⟩
def eqS : List (List (Nat × Nat)) → List (List (Nat × Nat)) → Prop
  | [], [] => True
  | p :: l, q :: m => eqL p q ∧ eqS l m
  | _, _ => False
theorem eqS.len : ∀ {l m : List (List (Nat × Nat))}, eqS l m → l.length = m.length
  | [], [], _ => rfl
  | p :: l, q :: m, h => by simp [eqS.len h.2]
  | [], q :: m, h => h.elim
  | p :: l, [], h => h.elim
theorem eqS.at : ∀ {l m : List (List (Nat × Nat))}, eqS l m → ∀ (i : Nat) (p q : List (Nat × Nat)), l[i]? = some p → m[i]? = some q → eqL p q
  | [], [], _, i, p, q, h1, _ => by simp at h1
  | a :: l, b :: m, h, 0, p, q, h1, h2 => by simp at h1 h2; subst h1; subst h2; exact h.1
  | a :: l, b :: m, h, i + 1, p, q, h1, h2 => eqS.at h.2 i p q (by simpa using h1) (by simpa using h2)
  | [], q :: m, h, _, _, _, _, _ => h.elim
  | p :: l, [], h, _, _, _, _, _ => h.elim
theorem scT_inj : ∀ (l m : List (List (Nat × Nat))), (∀ x ∈ l, Sc5 x) → (∀ x ∈ m, Sc5 x) → scT l = scT m → eqS l m
  | [], [], _, _, _ => trivial
  | [], q :: m, _, _, h => by simp [scT] at h
  | p :: l, [], _, _, h => by simp [scT] at h
  | p :: l, q :: m, hl, hm, h => by
    have h1 : 32 :: 124 :: (lsT p ++ scT l) = 32 :: 124 :: (lsT q ++ scT m) := by simpa [scT] using h
    have hp := hl p (by simp)
    have hq := hm q (by simp)
    obtain ⟨e1, e2⟩ := lsT_cut p q _ _ (hp.1.trans hq.1.symm) hp.wf hq.wf (List.cons.inj (List.cons.inj h1).2).2
    exact ⟨e1, scT_inj l m (fun x hx => hl x (by simp [hx])) (fun x hx => hm x (by simp [hx])) e2⟩
/-- What such a text says. -/
structure FpT (L : List UInt8) (g : Nat × Nat) (ss : List (List (Nat × Nat))) : Prop where
  wg : Wf g
  fg : finB g.1 g.2 = true
  ws : ∀ x ∈ ss, Sc5 x
  ns : ss.length ≤ 16
  text : L = fltT ++ (num g.1 g.2 ++ scT ss)
/-- .. in but one way. -/
theorem FpT.one {L : List UInt8} {g h : Nat × Nat} {ss ts : List (List (Nat × Nat))} (x : FpT L g ss) (y : FpT L h ts) : eqC g h ∧ eqS ss ts := by
  have e := x.text.symm.trans y.text
  obtain ⟨e1, e2⟩ := num_cut x.wg y.wg (List.append_cancel_left e)
  exact ⟨e1, scT_inj ss ts x.ws y.ws e2⟩
theorem fpT_of {L : List UInt8} {b c k : Nat} {g : Nat × Nat} {ss : List (List (Nat × Nat))} (hw : Wf g) (hg : finB g.1 g.2 = true) (i1 : Is L 0 fltT b) (i2 : Is L b (num g.1 g.2) c) (i3 : Is L c (scT ss) k) (hk : ¬ k < L.length) (ws : ∀ x ∈ ss, Sc5 x) (ns : ss.length ≤ 16) : FpT L g ss :=
  ⟨hw, hg, ws, ns, by
    have h := ((i1.trans i2).trans i3).whole (by omega)
    rw [h]; simp⟩
/-- Cells of numbers. -/
def cx (p : Nat × Nat) : Value := .complex .f64 p.1 p.2
/-- An array of five, as far as it is filled. -/
def arr5 (l : List (Nat × Nat)) : Array Value := #[cx (l.getD 0 (0, 0)), cx (l.getD 1 (0, 0)), cx (l.getD 2 (0, 0)), cx (l.getD 3 (0, 0)), cx (l.getD 4 (0, 0))]
theorem arr5_step (l : List (Nat × Nat)) (p : Nat × Nat) (h : l.length < 5) : (arr5 l).setIfInBounds l.length (cx p) = arr5 (l ++ [p]) := by
  match l, h with
  | [], _ => rfl
  | [a], _ => rfl
  | [a, b], _ => rfl
  | [a, b, c], _ => rfl
  | [a, b, c, d], _ => rfl
  | a :: b :: c :: d :: e :: r, h => simp at h; omega
theorem five (l : List (Nat × Nat)) (h : l.length = 5) : ∃ a b c d e, l = [a, b, c, d, e] := by
  match l, h with
  | [a, b, c, d, e], _ => exact ⟨a, b, c, d, e, rfl⟩
end Go.Proofs.YtnghppgpdeghfaaGreatDoor
