/- text.Filter of a filter that a text said. quaverlaw27.TextReadFilters: its walk. -/
import Derived.Test.YtnghppgpdeghfaaGreatDoorZf28
import Derived.Test.YtnghppgpdeghfaaGreatDoorZf16
namespace Go.Proofs.YtnghppgpdeghfaaGreatDoor
open Go.RowKit Go.Proofs.YtnghppgpdeghfaaGreatDoor.Fl Go.Proofs.YtnghppgpdeghfaaGreatDoor.Pt Go.Proofs.YtnghppgpdeghfaaGreatDoor.Tx

theorem BF4 {W b : Nat} {x y : Nat} {p : Value} {w : World} (h : Lib.BuilderAt 82 5 W b p (Lib.byteCells [] ++ Lib.strCells (({ data := #[102, 105, 108, 116, 101, 114, 32] } : ByteArray) ++ str (num x y))) w) : Lib.BuilderAt 82 5 W b p (Lib.byteCells (fltT ++ num x y)) w := by
  have e : Lib.byteCells [] ++ Lib.strCells (({ data := #[102, 105, 108, 116, 101, 114, 32] } : ByteArray) ++ str (num x y)) = Lib.byteCells (fltT ++ num x y) := by
    simp [Lib.byteCells, Lib.strCells, str, fltT]
  rw [← e]; exact h
theorem scT_take (l : Secs) (k : Nat) (z : List (Nat × Nat)) (h : l[k]? = some z) : scT (l.take (k + 1)) = scT (l.take k) ++ (32 :: 124 :: lsT z) := by
  rw [List.take_add_one, h, Option.toList_some, scT_snoc]
theorem scT_take_le (l : Secs) (k : Nat) (z : List (Nat × Nat)) (h : l[k]? = some z) : (scT (l.take k)).length + 2 + (lsT z).length ≤ (scT l).length := by
  have h0 : ∀ a b : Secs, scT (a ++ b) = scT a ++ scT b := fun a b => by simp [scT]
  have h1 : scT l = scT (l.take (k + 1)) ++ scT (l.drop (k + 1)) := by rw [← h0, List.take_append_drop]
  rw [h1, scT_take l k z h]
  simp only [List.length_append, List.length_cons]
  omega
theorem OS.oth {w w' : World} {B : Nat} {v : Value} {L : Secs} (h : OS w B v L) (k : Oth w w') : OS w' B v L := by
  obtain ⟨hl, h1⟩ := h
  refine ⟨hl, ?_⟩
  rcases h1 with h1 | ⟨g, cap, cur, rfl, hb', hg, r⟩
  · exact .inl h1
  · exact .inr ⟨g, cap, cur, rfl, hb', k _ _ _ hg (by decide) (by decide), r⟩
set_option linter.unusedSimpArgs false in
set_option maxRecDepth 100000 in
set_option maxHeartbeats 4000000 in
theorem Filter_ok (x y : Nat) (hw : Wf (x, y)) (hf : finB x y = true) (pa : Option Addr) (na ka : Nat) (ss : Secs) (W : World) (hg : Gl W)
    (ws : ∀ z ∈ ss, Sc5 z) (s16 : ss.length ≤ 16) (hlen : (fltT ++ num x y ++ scT ss).length ≤ 65536) (h1 : OS W 0 (.slice pa na ka) ss) :
    Calls Tryz.prog 19 #[.agg #[.complex .f64 x y, .slice pa na ka]] W fun e w' => e = .returned (.tuple #[.string (str (fltT ++ (num x y ++ scT ss))), .int .i64 0]) ∧ But [] W w' := by
  have hsz := hg.size
  have n1 := h1.len
  have t1 : decide ((na : Int) > 16) = false := decide_eq_false (by omega)
  have l3 := num_len hw.1 hw.2
  have en : (str (num x y)).size = (num x y).length := rfl
  simp only at l3
  have WS := Lib.hid ws
  have HLEN := Lib.hid hlen
  have BS0 := Lib.hid (show (Lib.byteCells []).length + (({ data := #[102, 105, 108, 116, 101, 114, 32] } : ByteArray) ++ str (num x y)).size ≤ 140737488355328 by rw [ByteArray.size_append, en]; show 0 + (7 + _) ≤ _; omega)
  obtain ⟨U, hU⟩ : ∃ U, U = W.alloc (.cells #[.complex .f64 x y, .slice pa na ka] 40) := ⟨_, rfl⟩
  have u0 : But [] W U := hU ▸ (But.refl [] W).alloc _
  have uS : U.heap.size = W.heap.size + 1 := by rw [hU]; simp
  have uA : U.heap[W.heap.size]? = some (.cells #[.complex .f64 x y, .slice pa na ka] 40 (0, 0)) := by rw [hU]; show (W.heap.push _)[_]? = _; exact Array.getElem?_push_size
  have b0 : U.cell? ⟨W.heap.size, 0, none⟩ = some (.complex .f64 x y) := by rw [cell_of_row U _ 0 _ _ _ uA]; rfl
  have b1 : U.cell? ⟨W.heap.size, 1, none⟩ = some (.slice pa na ka) := by rw [cell_of_row U _ 1 _ _ _ uA]; rfl
  have hgU := hg.keep u0 (by simp)
  obtain ⟨V, hV⟩ : ∃ V, V = U.alloc (.cells #[.pointer none, .slice none 0 0] 82) := ⟨_, rfl⟩
  have v0 : But [] U V := hV ▸ (But.refl [] U).alloc _
  have vS : V.heap.size = U.heap.size + 1 := by rw [hV]; simp
  have vB : V.heap[U.heap.size]? = some (.cells #[.pointer none, .slice none 0 0] 82 (0, 0)) := by rw [hV]; show (U.heap.push _)[_]? = _; exact Array.getElem?_push_size
  have vI : Lib.IsBuilder 82 5 U.heap.size U.heap.size (Lib.byteCells []) V := .inl ⟨Nat.le_refl _, _, vB, World.ownsRow_nil V _ _ _, by simp [Value.ownBlock]⟩
  have gV := hgU.keep v0 (by simp)
  have aV := v0.heap uA (by simp)
  have p0V : (U.alloc (.cells #[.pointer none, .slice none 0 0] 82)).cell? ⟨W.heap.size, 0, none⟩ = some (.complex .f64 x y) := hV ▸ (by rw [cell_of_row V _ 0 _ _ _ aV]; rfl)
  have HOS := Lib.hid (h1.keep (u0.trans v0) (by simp))
  have hU15 : 15 ≤ U.heap.size := by omega
  have hWU : W.heap.size < U.heap.size := by omega
  have hUV : U.heap.size < V.heap.size := by omega
  clear h1 hlen ws uS vS
  by_cases h0 : ss.length = 0
  · have hs0 : ss = [] := List.eq_nil_of_length_eq_zero h0
    obtain rfl : na = 0 := by omega
    subst hs0
    clear h0 n1 s16
    go_enter Tryz.func19, Tryz.ntmps19
    have tok : True := trivial
    go_wp2_with (go_at_call 37; rw [← hU]; clear hU; have _t := tok; clear tok; refine (finite_any x y hw.1 hw.2 _).mono ?_; rintro e w0 ⟨rfl, hw0⟩; rw [hf, ← hw0]; clear hw0 w0)
    have tok : True := trivial
    go_wp2_with (go_at_call 11; (try rw [← hV]); clear hV; have _t := tok; clear tok; refine (write_any x y hw.1 hw.2 V gV).mono ?_; rintro e w3 ⟨rfl, hb3⟩; have sz3 := hb3.size)
    all_goals first | (exfalso; omega) | skip
    have tok : True := trivial
    go_wp2_with (go_at_call 39; have _t := tok; clear tok; refine (wrs_full U.heap.size U.heap.size _ _ w3 (bld_keep vI hb3) BS0.out (by omega)).mono ?_; rintro e w4 ⟨rfl, hi4, hb4, ho4⟩; have hVB4 : Below U.heap.size V w4 := (below_of_but hb3 (by omega)).trans hb4; have hVO4 : Oth V w4 := (Oth.of_but hb3).trans ho4; have hI4 : Lib.IsBuilder 82 5 U.heap.size U.heap.size (Lib.byteCells (fltT ++ num x y)) w4 := (.inr (BF4 hi4)); clear hi4; have a4 : w4.heap[W.heap.size]? = some (.cells #[.complex .f64 x y, .slice pa 0 ka] 40 (0, 0)) := hVO4 _ _ _ aV (by decide) (by decide); have q0 : w4.cell? ⟨W.heap.size, 1, none⟩ = some (.slice pa 0 ka) := (by rw [cell_of_row w4 _ 1 _ _ _ a4]; rfl); have sz4 := hb4.size; have HI4 := Lib.hid hI4; clear hI4)
    refine wp_loop_rounds 1 ?_
    rw [rounds_succ]
    go_wp2_with fail
    have tok : True := trivial
    go_wp2_with (go_at_call 41; have _t := tok; clear tok; refine (Tryz.Builder_String_any U.heap.size U.heap.size _ w4 HI4.out (by omega)).mono ?_; rintro e w8 ⟨rfl, hb8⟩)
    go_ret2
    refine ⟨congrArg (fun l => Ending.returned (.tuple #[.string (str l), .int .i64 0])) (show fltT ++ num x y = fltT ++ (num x y ++ scT []) by simp [scT]), ?_⟩
    have hA := (hVB4).trans hb8
    exact ⟨hA.os.trans (u0.trans v0).os, hA.tape.trans (u0.trans v0).tape, hA.output.trans (u0.trans v0).output, Nat.le_trans (u0.trans v0).size hA.size, fun i hi hq => (hA.block i (by omega)).trans ((u0.trans v0).block i hi hq)⟩
  · obtain ⟨g1, c1, cur1, e1, hrow, hc1, hcs⟩ := HOS.out.someF h0
    injection e1 with e1 e2 e3
    subst e1 e3
    have HA := Lib.hid (show ∀ (w' : World), Oth V w' → ∀ (j : Nat) (u : Value), (scC ss)[j]? = some u → w'.cell? ⟨g1, j, none⟩ = some u from fun w' ho j b hj => by
      obtain ⟨g, cap, cur, e, _, _, hc⟩ := (HOS.out.oth ho).someF h0
      injection e with e _ _; injection e with e; injection e with e
      rw [e]; exact hc j b hj)
    obtain ⟨n, hnn⟩ : ∃ n, n = ss.length := ⟨_, rfl⟩
    obtain rfl : na = n := by omega
    have h63 : na ≤ 1000 := by omega
    have HNN := Lib.hid hnn
    clear hnn n1 e2 hrow hc1 hcs h0 s16
    go_enter Tryz.func19, Tryz.ntmps19
    have tok : True := trivial
    go_wp2_with (go_at_call 37; rw [← hU]; clear hU; have _t := tok; clear tok; refine (finite_any x y hw.1 hw.2 _).mono ?_; rintro e w0 ⟨rfl, hw0⟩; rw [hf, ← hw0]; clear hw0 w0)
    have tok : True := trivial
    go_wp2_with (go_at_call 11; (try rw [← hV]); clear hV; have _t := tok; clear tok; refine (write_any x y hw.1 hw.2 V gV).mono ?_; rintro e w3 ⟨rfl, hb3⟩; have sz3 := hb3.size)
    all_goals first | (exfalso; omega) | skip
    have tok : True := trivial
    go_wp2_with (go_at_call 39; have _t := tok; clear tok; refine (wrs_full U.heap.size U.heap.size _ _ w3 (bld_keep vI hb3) BS0.out (by omega)).mono ?_; rintro e w4 ⟨rfl, hi4, hb4, ho4⟩; have hVB4 : Below U.heap.size V w4 := (below_of_but hb3 (by omega)).trans hb4; have hVO4 : Oth V w4 := (Oth.of_but hb3).trans ho4; have hI4 : Lib.IsBuilder 82 5 U.heap.size U.heap.size (Lib.byteCells (fltT ++ num x y)) w4 := (.inr (BF4 hi4)); clear hi4; have a4 : w4.heap[W.heap.size]? = some (.cells #[.complex .f64 x y, .slice (some ⟨g1, 0, none⟩) na ka] 40 (0, 0)) := hVO4 _ _ _ aV (by decide) (by decide); have q0 : w4.cell? ⟨W.heap.size, 1, none⟩ = some (.slice (some ⟨g1, 0, none⟩) na ka) := (by rw [cell_of_row w4 _ 1 _ _ _ a4]; rfl); have sz4 := hb4.size; have HI4 := Lib.hid hI4; clear hI4)
    go_loopw [23, 4] (fun i o wr => ∃ k : Nat, k ≤ na ∧ i = .int .i64 k ∧ o = .bool true ∧ Hid (Lib.IsBuilder 82 5 U.heap.size U.heap.size (Lib.byteCells (fltT ++ num x y ++ scT (ss.take k))) wr) ∧ Below U.heap.size V wr ∧ Hid (Oth V wr)) (fun i _ _ => na - kOf i)
    case atStart => exact ⟨0, Nat.zero_le _, rfl, rfl, Lib.hid (by simpa [scT] using HI4.out), hVB4, Lib.hid hVO4⟩
    case round =>
      obtain ⟨k, hk, rfl, rfl, HI, hbt, HO⟩ := hrel
      by_cases hlt : k < na
      · have hx0 := List.getElem?_eq_getElem (l := ss) (i := k) (by have := HNN.out; omega)
        obtain ⟨xs, hxv⟩ : ∃ p, ss[k]? = some p := ⟨_, hx0⟩
        have sx := WS.out _ (List.mem_of_getElem? hxv)
        obtain ⟨p0, p1, p2, p3, p4, rfl⟩ := five xs sx.1
        obtain ⟨a0, a1, a2, a3, a4⟩ := five_of (HA.out wr HO.out) (fun z hz => (WS.out z hz).1) k p0 p1 p2 p3 p4 hxv
        have SX := Lib.hid sx
        have HXV := Lib.hid hxv
        have t1 : (k : Int) < na := by omega
        have hgr := gV.low hbt (by omega)
        have hs := hbt.size
        have HL0 := Lib.hid (show (fltT ++ num x y ++ scT (ss.take k) ++ [32, 124] ++ lsT [p0, p1, p2, p3, p4]).length ≤ 65536 by
          have h1 := scT_take_le ss k [p0, p1, p2, p3, p4] hxv
          have h2 := HLEN.out
          simp only [List.length_append, List.length_cons, List.length_nil] at h1 h2 ⊢
          omega)
        have BS1 := Lib.hid (show (Lib.byteCells (fltT ++ num x y ++ scT (ss.take k))).length + ({ data := #[32, 124] } : ByteArray).size ≤ 140737488355328 by
          rw [Lib.byteCells_length]; have h := HL0.out; have e2 : ({ data := #[32, 124] } : ByteArray).size = 2 := rfl
          simp only [List.length_append] at h ⊢; omega)
        obtain ⟨T, hT⟩ : ∃ T, T = wr.alloc (.cells #[.complex .f64 p0.1 p0.2, .complex .f64 p1.1 p1.2, .complex .f64 p2.1 p2.2, .complex .f64 p3.1 p3.2, .complex .f64 p4.1 p4.2] 75) := ⟨_, rfl⟩
        have t0 : But [] wr T := hT ▸ (But.refl [] wr).alloc _
        have t7 : T.heap[wr.heap.size]? = some (.cells #[.complex .f64 p0.1 p0.2, .complex .f64 p1.1 p1.2, .complex .f64 p2.1 p2.2, .complex .f64 p3.1 p3.2, .complex .f64 p4.1 p4.2] 75 (0, 0)) := by rw [hT]; show (wr.heap.push _)[_]? = _; exact Array.getElem?_push_size
        have tS := t0.size
        clear hx0 hxv sx
        have tok : True := trivial
        go_wp2_with (go_at_call 45; rw [← hT]; clear hT; have _t := tok; clear tok; refine (numbers45 p0 p1 p2 p3 p4 T).mono ?_; rintro e w1 ⟨r1, rn1, rk1, rfl, hoz1, hb1⟩; have HZ1 := Lib.hid hoz1; clear hoz1)
        have tok : True := trivial
        go_wp2_with (go_at_call 38; have _t := tok; clear tok; refine (finl_true _ _ [p0, p1, p2, p3, p4] SX.out.2 (by simp) w1 HZ1.out).mono ?_; rintro e w2 ⟨rfl, hb2⟩; have hT2 := t0.trans (hb1.trans hb2); have sz2 := hT2.size)
        have tok : True := trivial
        go_wp2_with (go_at_call 39; have _t := tok; clear tok; refine (wrs_full U.heap.size U.heap.size _ _ w2 (bld_keep HI.out hT2) BS1.out (by omega)).mono ?_; rintro e w3 ⟨rfl, hi3, hb3, ho3⟩; have hI3 := Lib.hid (show Lib.IsBuilder 82 5 U.heap.size U.heap.size (Lib.byteCells (fltT ++ num x y ++ scT (ss.take k) ++ [32, 124])) w3 from .inr (BC6 hi3)); clear hi3; have hO3 : Oth T w3 := (Oth.of_but (hb1.trans hb2)).trans ho3; have c7 := hO3 _ _ _ t7 (by decide) (by decide); have c70 : w3.cell? ⟨wr.heap.size, 0, none⟩ = some (.complex .f64 p0.1 p0.2) := (by rw [cell_of_row w3 _ 0 _ _ _ c7]; rfl); have c71 : w3.cell? ⟨wr.heap.size, 1, none⟩ = some (.complex .f64 p1.1 p1.2) := (by rw [cell_of_row w3 _ 1 _ _ _ c7]; rfl); have c72 : w3.cell? ⟨wr.heap.size, 2, none⟩ = some (.complex .f64 p2.1 p2.2) := (by rw [cell_of_row w3 _ 2 _ _ _ c7]; rfl); have c73 : w3.cell? ⟨wr.heap.size, 3, none⟩ = some (.complex .f64 p3.1 p3.2) := (by rw [cell_of_row w3 _ 3 _ _ _ c7]; rfl); have c74 : w3.cell? ⟨wr.heap.size, 4, none⟩ = some (.complex .f64 p4.1 p4.2) := (by rw [cell_of_row w3 _ 4 _ _ _ c7]; rfl); have hW3 : Below U.heap.size wr w3 := (below_of_but hT2 (by omega)).trans hb3; have sz3 := hW3.size; have hOr3 : Oth wr w3 := (Oth.of_but t0).trans hO3)
        have tok : True := trivial
        go_wp2_with (go_at_call 45; have _t := tok; clear tok; refine (numbers45 p0 p1 p2 p3 p4 w3).mono ?_; rintro e w5 ⟨r5, rn5, rk5, rfl, hoz5, hb5⟩; have HZ5 := Lib.hid hoz5; clear hoz5; have sz5 := hb5.size; have hg5 := (hgr.low hW3 (by omega)).keep hb5 (by simp))
        have tok : True := trivial
        go_wp2_with (go_at_call 40; have _t := tok; clear tok; refine (list_full U.heap.size U.heap.size _ _ _ [p0, p1, p2, p3, p4] SX.out.wf HL0.out (by simp) (by simp) w5 hg5 (by omega) (by omega) (bld_keep hI3.out hb5) HZ5.out).mono ?_; rintro e w6 ⟨rfl, hI6, hb6, ho6⟩)
        refine ⟨⟨k + 1, by omega, by go_num, rfl, Lib.hid ?_, hbt.trans ((hW3.trans (below_of_but hb5 (by omega))).trans hb6), Lib.hid ((HO.out.trans hOr3).trans ((Oth.of_but hb5).trans ho6))⟩, by simp [kOf]; omega⟩
        rw [scT_take ss k _ HXV.out]
        have e : fltT ++ num x y ++ (scT (ss.take k) ++ (32 :: 124 :: lsT [p0, p1, p2, p3, p4])) = fltT ++ num x y ++ scT (ss.take k) ++ [32, 124] ++ lsT [p0, p1, p2, p3, p4] := by simp
        rw [e]
        exact hI6
      · have hkn : k = na := by omega
        subst hkn
        have hs := hbt.size
        have HF := Lib.hid (show Lib.IsBuilder 82 5 U.heap.size U.heap.size (Lib.byteCells (fltT ++ num x y ++ scT ss)) wr by have h := HI.out; rw [HNN.out, List.take_length] at h; exact h)
        go_wp2_with fail
        have tok : True := trivial
        go_wp2_with (go_at_call 41; have _t := tok; clear tok; refine (Tryz.Builder_String_any U.heap.size U.heap.size _ wr HF.out (by omega)).mono ?_; rintro e w8 ⟨rfl, hb8⟩)
        go_ret2
        refine ⟨rfl, ?_⟩
        have hA := (hbt).trans hb8
        exact ⟨hA.os.trans (u0.trans v0).os, hA.tape.trans (u0.trans v0).tape, hA.output.trans (u0.trans v0).output, Nat.le_trans (u0.trans v0).size hA.size, fun i hi hq => (hA.block i (by omega)).trans ((u0.trans v0).block i hi hq)⟩
end Go.Proofs.YtnghppgpdeghfaaGreatDoor
namespace Go.Proofs.YtnghppgpdeghfaaGreatDoor
open Go.RowKit Go.Proofs.YtnghppgpdeghfaaGreatDoor.Fl Go.Proofs.YtnghppgpdeghfaaGreatDoor.Pt Go.Proofs.YtnghppgpdeghfaaGreatDoor.Tx

set_option linter.unusedSimpArgs false in
set_option maxRecDepth 100000 in
set_option maxHeartbeats 4000000 in
theorem flaw_fault (s : ByteArray) (b n : Nat) (hn : ((n : Int) != 0) = true) (W : World) (hg : Gl W) (k1 : Calls Tryz.prog 13 #[.string s] W fun e w' => e = FlE b n ∧ But [] W w') (k2 : ∀ w, Calls Tryz.prog 17 #[.string s] w fun e w' => e = FlE b n ∧ But [] w w') : Calls Tryz.prog 6 #[.string s] W fun e w' => e = .returned (.bool true) ∧ But [] W w' := by
  go_enter Tryz.func6, Tryz.ntmps6
  have tok : True := trivial
  go_wp2_with (go_at_call 13; have _t := tok; clear tok; refine (k1).mono ?_; rintro e w1 ⟨rfl, hb1⟩; have hg1 := hg.keep hb1 (by simp); obtain ⟨V1, hV1⟩ : ∃ V1, V1 = w1.alloc (.cells #[.complex .f64 0 0, .slice none 0 0] 40) := ⟨_, rfl⟩; have uV1 : But [] w1 V1 := hV1 ▸ (But.refl [] w1).alloc _; have rV1 : V1.heap[w1.heap.size]? = some (.cells #[.complex .f64 0 0, .slice none 0 0] 40 (0, 0)) := (by rw [hV1]; show (w1.heap.push _)[_]? = _; exact Array.getElem?_push_size))
  have tok : True := trivial
  go_wp2_with (go_at_call 17; rw [← hV1]; have _t := tok; clear tok; refine (k2 V1).mono ?_; rintro e w2 ⟨rfl, hb2⟩; have a2 := hb2.heap rV1 (by simp); have hg2 := (hg1.keep uV1 (by simp)).keep hb2 (by simp); obtain ⟨V2, hV2⟩ : ∃ V2, V2 = w2.alloc (.cells #[.complex .f64 0 0, .slice none 0 0] 40) := ⟨_, rfl⟩; have uV2 : But [] w2 V2 := hV2 ▸ (But.refl [] w2).alloc _; have rV2 : V2.heap[w2.heap.size]? = some (.cells #[.complex .f64 0 0, .slice none 0 0] 40 (0, 0)) := (by rw [hV2]; show (w2.heap.push _)[_]? = _; exact Array.getElem?_push_size))
  have tok : True := trivial
  go_wp2_with (go_at_call 9; rw [← hV2]; have _t := tok; clear tok; refine (awake_any V2 (hg2.keep uV2 (by simp))).mono ?_; rintro e w3 ⟨rfl, hb3⟩; have hg3 := (hg2.keep uV2 (by simp)).keep hb3 (by simp); have a3 := (uV2.trans hb3).heap a2 (by simp); have a30 : w3.cell? ⟨w1.heap.size, 0, none⟩ = some (.complex .f64 0 0) := (by rw [cell_of_row w3 _ 0 _ _ _ a3]; rfl); have a31 : w3.cell? ⟨w1.heap.size, 1, none⟩ = some (.slice none 0 0) := (by rw [cell_of_row w3 _ 1 _ _ _ a3]; rfl); have b3 := hb3.heap rV2 (by simp); have b30 : w3.cell? ⟨w2.heap.size, 0, none⟩ = some (.complex .f64 0 0) := (by rw [cell_of_row w3 _ 0 _ _ _ b3]; rfl); have b31 : w3.cell? ⟨w2.heap.size, 1, none⟩ = some (.slice none 0 0) := (by rw [cell_of_row w3 _ 1 _ _ _ b3]; rfl))
  have tok : True := trivial
  go_wp2_with (go_at_call 18; have _t := tok; clear tok; refine (sflt_true 0 0 0 0 ⟨by decide, by decide⟩ ⟨by decide, by decide⟩ ⟨by decide, by decide⟩ none 0 0 none 0 0 0 0 [] [] w3 (by simp) (by simp) trivial (by simp) (World.ownsRow_nil _ _ _ _) (World.ownsRow_nil _ _ _ _)).mono ?_; rintro e w4 ⟨rfl, hb4⟩)
  go_ret
  exact ⟨rfl, ((((hb1.trans uV1).trans hb2).trans uV2).trans hb3).trans hb4⟩
set_option linter.unusedSimpArgs false in
set_option maxRecDepth 100000 in
set_option maxHeartbeats 4000000 in
theorem flaw_fine (s : ByteArray) (hs : s.size ≤ 65536) (W : World) (hg : Gl W) (k1 : Calls Tryz.prog 13 #[.string s] W fun e w' => But [] W w' ∧ ∃ x y p n k ss, e = .returned (.tuple #[.agg #[.complex .f64 x y, .slice p n k], .int .i64 0, .int .i64 0]) ∧ OS w' W.heap.size (.slice p n k) ss ∧ FpT s.data.toList (x, y) ss) (k2 : ∀ w, Calls Tryz.prog 17 #[.string s] w fun e w' => But [] w w' ∧ ∃ x y p n k ss, e = .returned (.tuple #[.agg #[.complex .f64 x y, .slice p n k], .int .i64 0, .int .i64 0]) ∧ OS w' w.heap.size (.slice p n k) ss ∧ FpT s.data.toList (x, y) ss) : Calls Tryz.prog 6 #[.string s] W fun e w' => e = .returned (.bool true) ∧ But [] W w' := by
  go_enter Tryz.func6, Tryz.ntmps6
  have tok : True := trivial
  go_wp2_with (go_at_call 13; have _t := tok; clear tok; refine (k1).mono ?_; rintro e w1 ⟨hb1, x, y, p, n, k, ss, rfl, hz, ht⟩; have T1 := Lib.hid ht; have HZ := Lib.hid (hz.low (Nat.zero_le _)); clear ht hz; have hg1 := hg.keep hb1 (by simp); obtain ⟨V1, hV1⟩ : ∃ V1, V1 = w1.alloc (.cells #[.complex .f64 x y, .slice p n k] 40) := ⟨_, rfl⟩; have uV1 : But [] w1 V1 := hV1 ▸ (But.refl [] w1).alloc _; have rV1 : V1.heap[w1.heap.size]? = some (.cells #[.complex .f64 x y, .slice p n k] 40 (0, 0)) := (by rw [hV1]; show (w1.heap.push _)[_]? = _; exact Array.getElem?_push_size))
  have tok : True := trivial
  go_wp2_with (go_at_call 17; rw [← hV1]; have _t := tok; clear tok; refine (k2 V1).mono ?_; rintro e w2 ⟨hb2, x2, y2, q, m, j, ts, rfl, gz, gt⟩; have T2 := Lib.hid gt; have YZ := Lib.hid (gz.low (Nat.zero_le _)); clear gt gz; have EQ := Lib.hid (T1.out.one T2.out); have a2 := hb2.heap rV1 (by simp); have hg2 := (hg1.keep uV1 (by simp)).keep hb2 (by simp); obtain ⟨V2, hV2⟩ : ∃ V2, V2 = w2.alloc (.cells #[.complex .f64 x2 y2, .slice q m j] 40) := ⟨_, rfl⟩; have uV2 : But [] w2 V2 := hV2 ▸ (But.refl [] w2).alloc _; have rV2 : V2.heap[w2.heap.size]? = some (.cells #[.complex .f64 x2 y2, .slice q m j] 40 (0, 0)) := (by rw [hV2]; show (w2.heap.push _)[_]? = _; exact Array.getElem?_push_size))
  have tok : True := trivial
  go_wp2_with (go_at_call 9; rw [← hV2]; have _t := tok; clear tok; refine (awake_any V2 (hg2.keep uV2 (by simp))).mono ?_; rintro e w3 ⟨rfl, hb3⟩; have hb13 := ((uV1.trans hb2).trans uV2).trans hb3; have hb23 := uV2.trans hb3; have hg3 := (hg2.keep uV2 (by simp)).keep hb3 (by simp); have a3 := (uV2.trans hb3).heap a2 (by simp); have a30 : w3.cell? ⟨w1.heap.size, 0, none⟩ = some (.complex .f64 x y) := (by rw [cell_of_row w3 _ 0 _ _ _ a3]; rfl); have a31 : w3.cell? ⟨w1.heap.size, 1, none⟩ = some (.slice p n k) := (by rw [cell_of_row w3 _ 1 _ _ _ a3]; rfl); have b3 := hb3.heap rV2 (by simp); have b30 : w3.cell? ⟨w2.heap.size, 0, none⟩ = some (.complex .f64 x2 y2) := (by rw [cell_of_row w3 _ 0 _ _ _ b3]; rfl); have b31 : w3.cell? ⟨w2.heap.size, 1, none⟩ = some (.slice q m j) := (by rw [cell_of_row w3 _ 1 _ _ _ b3]; rfl))
  have tok : True := trivial
  go_wp2_with (go_at_call 18; have _t := tok; clear tok; refine (sflt_true x y x2 y2 T1.out.wg T2.out.wg EQ.out.1 p n k q m j 0 0 ss ts w3 T1.out.ws T2.out.ws EQ.out.2 (by have := T1.out.ns; omega) (HZ.out.keep hb13 (by simp)) (YZ.out.keep hb23 (by simp))).mono ?_; rintro e w4 ⟨rfl, hb4⟩; have a4 := hb4.heap a3 (by simp); have a40 : w4.cell? ⟨w1.heap.size, 0, none⟩ = some (.complex .f64 x y) := (by rw [cell_of_row w4 _ 0 _ _ _ a4]; rfl); have a41 : w4.cell? ⟨w1.heap.size, 1, none⟩ = some (.slice p n k) := (by rw [cell_of_row w4 _ 1 _ _ _ a4]; rfl))
  have hq : ((str (fltT ++ (num x y ++ scT ss))).toList == s.toList) = true := by rw [seq_dec _ _ s T1.out.text]; simp
  have hlen : (fltT ++ num x y ++ scT ss).length ≤ 65536 := by
    have h := congrArg List.length T1.out.text
    simp only [List.length_append] at h ⊢
    have : s.data.toList.length = s.size := by simp
    omega
  have HLEN := Lib.hid hlen
  clear hlen
  have tok : True := trivial
  go_wp2_with (go_at_call 19; have _t := tok; clear tok; refine (Filter_ok x y T1.out.wg T1.out.fg p n k ss w4 (hg3.keep hb4 (by simp)) T1.out.ws T1.out.ns HLEN.out (HZ.out.keep (hb13.trans hb4) (by simp))).mono ?_; rintro e w5 ⟨rfl, hb5⟩)
  go_ret
  exact ⟨rfl, (((((hb1.trans uV1).trans hb2).trans uV2).trans hb3).trans hb4).trans hb5⟩
/-- Every TextReadFilters is true. -/
theorem textReadFilters_any (s : ByteArray) (W : World) (hg : Gl W) : Calls Tryz.prog 6 #[.string s] W fun e w' => e = .returned (.bool true) ∧ But [] W w' := by
  by_cases hs : 65536 < s.size
  · refine flaw_fault s 0 2 rfl W hg ((ReadFilter_any s W hg).mono ?_) fun w => (DocReadFilter_any s w).mono ?_
    all_goals
      rintro e w' (⟨_, h⟩ | ⟨h, _⟩ | ⟨h, _⟩)
      · exact h
      all_goals omega
  rcases trip (fp s.data.toList) with ⟨a, c, k⟩ | ⟨b, f, k⟩
  · refine flaw_fine s (by omega) W hg ((ReadFilter_any s W hg).mono ?_) fun w => (DocReadFilter_any s w).mono ?_
    all_goals
      rintro e w' (⟨h, _⟩ | ⟨_, b, f, h, _⟩ | ⟨_, _, h⟩)
      · omega
      · rw [k] at h; cases h
      · exact h
  · have hf : f = 12 ∨ f = 2 ∨ f = 5 := fp_err _ _ _ k
    refine flaw_fault s b f (err_ne hf) W hg ((ReadFilter_any s W hg).mono ?_) fun w => (DocReadFilter_any s w).mono ?_
    all_goals
      rintro e w' (⟨h, _⟩ | ⟨_, b, f, h, h2⟩ | ⟨_, ⟨b, f, h⟩, _⟩)
      · omega
      · rw [k] at h; cases h; exact h2
      · rw [k] at h; cases h
end Go.Proofs.YtnghppgpdeghfaaGreatDoor
