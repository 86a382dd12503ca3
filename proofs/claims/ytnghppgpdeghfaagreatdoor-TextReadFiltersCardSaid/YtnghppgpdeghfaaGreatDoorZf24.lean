/- The reader's section. Rows of sections that a walk owns, and append. -/
import Derived.Test.YtnghppgpdeghfaaGreatDoorZf23
namespace Go.Proofs.YtnghppgpdeghfaaGreatDoor
open Go.RowKit Go.Proofs.YtnghppgpdeghfaaGreatDoor.Fl Go.Proofs.YtnghppgpdeghfaaGreatDoor.Pt Go.Proofs.YtnghppgpdeghfaaGreatDoor.Tx

theorem arr5_cell (l : List (Nat × Nat)) (k : Nat) (h : k < 5) : (arr5 l)[k]? = some (cx (l.getD k (0, 0))) := by
  match k, h with
  | 0, _ => rfl
  | 1, _ => rfl
  | 2, _ => rfl
  | 3, _ => rfl
  | 4, _ => rfl
theorem results_cell1 {fn : Func} {p : Tmp} {ty : TypeId} (h : fn.results = #[.cell p ty]) (tmps : Array Value) (P : Program) (w : World) :
    (results fn tmps).run P w = ((asAddr (tmps.getD p undef)).run P w).andThen fun a w₁ => (loadVar ty a).run P w₁ := by
  simp only [results, h]
  simp [Sem.run_bind, Result.andThen]
/-- What section answers. -/
def SeP (R a : Nat) (s : ByteArray) (W : World) (e : Ending) (w' : World) : Prop := But [R] W w' ∧
  ((∃ l c, sn s.data.toList 5 a = (true, c, 0) ∧ e = .returned (.agg (arr5 l)) ∧ Rdr w' R s c ∧ Is s.data.toList a (lsT l) c ∧ Sc5 l) ∨ (∃ b f : Nat, sn s.data.toList 5 a = (false, b, f) ∧ e = Fa b f))
set_option linter.unusedSimpArgs false in
set_option maxRecDepth 100000 in
set_option maxHeartbeats 4000000 in
theorem section_any (R a : Nat) (s : ByteArray) (hs : s.size ≤ 65536) (ha : a ≤ s.size) (hR : 15 ≤ R) (W : World) (h : Rdr W R s a) (hg : Gl W) : Calls Tryz.prog 33 #[.pointer (some ⟨R, 0, none⟩)] W (SeP R a s W) := by
  have hRW : R < W.heap.size := (Array.getElem?_eq_some_iff.1 h).1
  obtain ⟨U, hU⟩ : ∃ U, U = (W.alloc (.cells #[.complex .f64 0 0, .complex .f64 0 0, .complex .f64 0 0, .complex .f64 0 0, .complex .f64 0 0] 75)).alloc (.cells #[.complex .f64 0 0, .complex .f64 0 0, .complex .f64 0 0, .complex .f64 0 0, .complex .f64 0 0] 90) := ⟨_, rfl⟩
  have u0 : But [] W U := hU ▸ ((But.refl [] W).alloc _).alloc _
  have uA : U.heap[W.heap.size]? = some (.cells #[.complex .f64 0 0, .complex .f64 0 0, .complex .f64 0 0, .complex .f64 0 0, .complex .f64 0 0] 75 (0, 0)) := by rw [hU]; exact a2_0 _ _ _
  have uB : U.heap[W.heap.size + 1]? = some (.cells #[.complex .f64 0 0, .complex .f64 0 0, .complex .f64 0 0, .complex .f64 0 0, .complex .f64 0 0] 90 (0, 0)) := by rw [hU]; exact a2_1 _ _ _
  have uS : U.heap.size = W.heap.size + 2 := by rw [hU]; simp
  have hRU := h.keep u0 (by simp)
  have HG := hg.keep u0 (by simp)
  clear h hg
  go_enter Tryz.func33, Tryz.ntmps33
  go_wp2_with fail
  rw [← hU]
  go_loopw [5] (fun i wr => ∃ (k : Nat) (l : List (Nat × Nat)) (c : Nat), k ≤ 5 ∧ i = .int .i64 (k : Int) ∧ l.length = k ∧ c ≤ s.size ∧ Rdr wr R s c ∧ But [R, W.heap.size + 1] U wr ∧ wr.heap[W.heap.size + 1]? = some (.cells (arr5 l) 90 (0, 0)) ∧ Hid (sn s.data.toList 5 a = sn s.data.toList (5 - k) c) ∧ Hid (Is s.data.toList a (lsT l) c) ∧ Hid (∀ p ∈ l, p.1 < 18446744073709551616 ∧ p.2 < 18446744073709551616 ∧ finB p.1 p.2 = true)) (fun i _ => 5 - kOf i)
  case atStart => exact ⟨0, [], a, by omega, rfl, rfl, ha, hRU, But.refl _ _, uB, Lib.hid rfl, Lib.hid (Is.nil _ _), Lib.hid (by simp)⟩
  case round =>
    obtain ⟨k, l, c, hk, rfl, hl, hc, hr, hb, hA, hT, hI, hF⟩ := hrel
    have hgr := HG.keep hb (by simp; omega)
    by_cases hlt : k < 5
    · have t1 : (k : Int) < 5 := by omega
      have hfu : sn s.data.toList (5 - k) c = sn s.data.toList ((4 - k) + 1) c := by rw [show 5 - k = (4 - k) + 1 by omega]
      rcases pair (x := tk s.data.toList [32] c) with ⟨b, k1⟩ | ⟨b, k1⟩
      · have l1 : b ≤ s.size := by have := tk_le k1 (by simpa using hc); simpa using this
        have K1 := Lib.hid k1
        rcases pair (x := nu s.data.toList b) with ⟨d, k2⟩ | ⟨d, k2⟩
        · have l2 : d ≤ s.size := by have := nu_le k2 (by simpa using l1); simpa using this
          by_cases hfn : FiN s.data.toList b d
          · have HE := Lib.hid (hT.out.trans (hfu.trans (sn_next k1 k2 hfn)))
            have HFN := Lib.hid hfn
            have K2 := Lib.hid k2
            clear k1 k2 hfn hfu
            have tok : True := trivial
            go_wp2_with (go_at_call 28; have _t := tok; clear tok; refine (take_ok (w0 := wr) [32] (by decide) (by omega) hc hr (But.refl _ _) K1.out).mono ?_; rintro e w1 ⟨rfl, hr1, hb1⟩; have hg1 := hgr.keep hb1 (by simpa using hR))
            have tok : True := trivial
            go_wp2_with (go_at_call 29; have _t := tok; clear tok; refine (fi_ok hs l1 hR hr1 hg1 K2.out HFN.out).mono ?_; rintro e w2 ⟨x, y, rfl, hxy, hr2, hb2⟩; have HXY := Lib.hid hxy; clear hxy; have bA := (hb1.trans hb2).heap hA (by simp; omega); have cA : w2.cell? ⟨W.heap.size + 1, k, none⟩ = some (cx (l.getD k (0, 0))) := (by rw [cell_of_row w2 (W.heap.size + 1) k _ _ _ bA]; exact arr5_cell l k hlt); have fA : w2.frozen? ⟨W.heap.size + 1, k, none⟩ = false := blk_free bA)
            refine ⟨⟨k + 1, l ++ [(x, y)], d, by omega, by go_num, by simp [hl], l2, (Below.heap_setCell w2 ⟨W.heap.size + 1, k, none⟩ (.complex .f64 x y) R (by simp; omega)).trans hr2, ?_, ?_, ?_, ?_, ?_⟩, by simp [kOf]; omega⟩
            · exact (hb.trans ((hb1.trans hb2).weak (by simp; omega))).setCell ⟨W.heap.size + 1, k, none⟩ (.complex .f64 x y) (.inl (by simp))
            · rw [blk_set _ _ _ _ _ _ bA, ← hl, show Value.complex .f64 x y = cx (x, y) from rfl, arr5_step l (x, y) (by omega)]
            · exact Lib.hid (by rw [HE.out, show 5 - (k + 1) = 4 - k by omega])
            · exact Lib.hid (by rw [lsT_snoc]; exact hI.out.trans ((tk_is _ _ _ _ K1.out).trans HXY.out.2.2.1))
            · exact Lib.hid (fun p hp => (List.mem_append.1 hp).elim (fun h => hF.out p h) (fun h => by rw [List.mem_singleton.1 h]; exact ⟨HXY.out.1, HXY.out.2.1, HXY.out.2.2.2⟩))
          · have HE := Lib.hid (hT.out.trans (hfu.trans (sn_nan k1 k2 hfn)))
            have HFN := Lib.hid hfn
            have K2 := Lib.hid k2
            clear k1 k2 hfn hfu
            have tok : True := trivial
            go_wp2_with (go_at_call 28; have _t := tok; clear tok; refine (take_ok (w0 := wr) [32] (by decide) (by omega) hc hr (But.refl _ _) K1.out).mono ?_; rintro e w1 ⟨rfl, hr1, hb1⟩; have hg1 := hgr.keep hb1 (by simpa using hR))
            have tok : True := trivial
            go_wp2_with (go_at_call 29; have _t := tok; clear tok; refine (fi_nan hs l1 hR hr1 hg1 K2.out HFN.out).mono ?_; rintro e w2 ⟨he2, hb2⟩; subst he2; simp only [Fa])
            exact ⟨rfl, (u0.weak (qs' := [R]) (by simp)).then (hb.trans ((hb1.trans hb2).weak (by simp; omega))) (by simp; omega), .inr ⟨b, 5, HE.out, rfl⟩⟩
        · have HE := Lib.hid (hT.out.trans (hfu.trans (sn_nu k1 k2)))
          have K2 := Lib.hid k2
          clear k1 k2 hfu
          have tok : True := trivial
          go_wp2_with (go_at_call 28; have _t := tok; clear tok; refine (take_ok (w0 := wr) [32] (by decide) (by omega) hc hr (But.refl _ _) K1.out).mono ?_; rintro e w1 ⟨rfl, hr1, hb1⟩; have hg1 := hgr.keep hb1 (by simpa using hR))
          have tok : True := trivial
          go_wp2_with (go_at_call 29; have _t := tok; clear tok; refine (finite_no R b d s hs l1 hR _ hr1 hg1 K2.out).mono ?_; rintro e w2 ⟨he2, hb2⟩; subst he2; simp only [Fa])
          exact ⟨rfl, (u0.weak (qs' := [R]) (by simp)).then (hb.trans ((hb1.trans hb2).weak (by simp; omega))) (by simp; omega), .inr ⟨d, 12, HE.out, rfl⟩⟩
      · have HE := Lib.hid (hT.out.trans (hfu.trans (sn_sp k1)))
        have K1 := Lib.hid k1
        clear k1 hfu
        have tok : True := trivial
        go_wp2_with (go_at_call 28; have _t := tok; clear tok; refine (take_no (w0 := wr) [32] (by decide) (by omega) hc hr (But.refl _ _) K1.out).mono ?_; rintro e w1 ⟨he1, hb1⟩; subst he1; simp only [Fa])
        exact ⟨rfl, (u0.weak (qs' := [R]) (by simp)).then (hb.trans (hb1.weak (by simp; omega))) (by simp; omega), .inr ⟨b, 12, HE.out, rfl⟩⟩
    · obtain rfl : k = 5 := by omega
      obtain ⟨p0, p1, p2, p3, p4, rfl⟩ := five l hl
      have zR := hb.heap uA (by simp; omega)
      have a0 : wr.cell? ⟨W.heap.size + 1, 0, none⟩ = some (.complex .f64 p0.1 p0.2) := by rw [cell_of_row wr _ 0 _ _ _ hA]; rfl
      have a1 : wr.cell? ⟨W.heap.size + 1, 1, none⟩ = some (.complex .f64 p1.1 p1.2) := by rw [cell_of_row wr _ 1 _ _ _ hA]; rfl
      have a2 : wr.cell? ⟨W.heap.size + 1, 2, none⟩ = some (.complex .f64 p2.1 p2.2) := by rw [cell_of_row wr _ 2 _ _ _ hA]; rfl
      have a3 : wr.cell? ⟨W.heap.size + 1, 3, none⟩ = some (.complex .f64 p3.1 p3.2) := by rw [cell_of_row wr _ 3 _ _ _ hA]; rfl
      have a4 : wr.cell? ⟨W.heap.size + 1, 4, none⟩ = some (.complex .f64 p4.1 p4.2) := by rw [cell_of_row wr _ 4 _ _ _ hA]; rfl
      have z0 : wr.cell? ⟨W.heap.size, 0, none⟩ = some (.complex .f64 0 0) := by rw [cell_of_row wr _ 0 _ _ _ zR]; rfl
      have z1 : wr.cell? ⟨W.heap.size, 1, none⟩ = some (.complex .f64 0 0) := by rw [cell_of_row wr _ 1 _ _ _ zR]; rfl
      have z2 : wr.cell? ⟨W.heap.size, 2, none⟩ = some (.complex .f64 0 0) := by rw [cell_of_row wr _ 2 _ _ _ zR]; rfl
      have z3 : wr.cell? ⟨W.heap.size, 3, none⟩ = some (.complex .f64 0 0) := by rw [cell_of_row wr _ 3 _ _ _ zR]; rfl
      have z4 : wr.cell? ⟨W.heap.size, 4, none⟩ = some (.complex .f64 0 0) := by rw [cell_of_row wr _ 4 _ _ _ zR]; rfl
      have f0 : (wr).frozen? ⟨W.heap.size, 0, none⟩ = false := blk_free zR
      have s0 := blk_set (wr) W.heap.size 0 _ 75 (.complex .f64 p0.1 p0.2) zR
      have f1 : ((wr).setCell ⟨W.heap.size, 0, none⟩ (.complex .f64 p0.1 p0.2)).frozen? ⟨W.heap.size, 1, none⟩ = false := blk_free s0
      have s1 := blk_set ((wr).setCell ⟨W.heap.size, 0, none⟩ (.complex .f64 p0.1 p0.2)) W.heap.size 1 _ 75 (.complex .f64 p1.1 p1.2) s0
      have f2 : (((wr).setCell ⟨W.heap.size, 0, none⟩ (.complex .f64 p0.1 p0.2)).setCell ⟨W.heap.size, 1, none⟩ (.complex .f64 p1.1 p1.2)).frozen? ⟨W.heap.size, 2, none⟩ = false := blk_free s1
      have s2 := blk_set (((wr).setCell ⟨W.heap.size, 0, none⟩ (.complex .f64 p0.1 p0.2)).setCell ⟨W.heap.size, 1, none⟩ (.complex .f64 p1.1 p1.2)) W.heap.size 2 _ 75 (.complex .f64 p2.1 p2.2) s1
      have f3 : ((((wr).setCell ⟨W.heap.size, 0, none⟩ (.complex .f64 p0.1 p0.2)).setCell ⟨W.heap.size, 1, none⟩ (.complex .f64 p1.1 p1.2)).setCell ⟨W.heap.size, 2, none⟩ (.complex .f64 p2.1 p2.2)).frozen? ⟨W.heap.size, 3, none⟩ = false := blk_free s2
      have s3 := blk_set ((((wr).setCell ⟨W.heap.size, 0, none⟩ (.complex .f64 p0.1 p0.2)).setCell ⟨W.heap.size, 1, none⟩ (.complex .f64 p1.1 p1.2)).setCell ⟨W.heap.size, 2, none⟩ (.complex .f64 p2.1 p2.2)) W.heap.size 3 _ 75 (.complex .f64 p3.1 p3.2) s2
      have f4 : (((((wr).setCell ⟨W.heap.size, 0, none⟩ (.complex .f64 p0.1 p0.2)).setCell ⟨W.heap.size, 1, none⟩ (.complex .f64 p1.1 p1.2)).setCell ⟨W.heap.size, 2, none⟩ (.complex .f64 p2.1 p2.2)).setCell ⟨W.heap.size, 3, none⟩ (.complex .f64 p3.1 p3.2)).frozen? ⟨W.heap.size, 4, none⟩ = false := blk_free s3
      have s4 := blk_set (((((wr).setCell ⟨W.heap.size, 0, none⟩ (.complex .f64 p0.1 p0.2)).setCell ⟨W.heap.size, 1, none⟩ (.complex .f64 p1.1 p1.2)).setCell ⟨W.heap.size, 2, none⟩ (.complex .f64 p2.1 p2.2)).setCell ⟨W.heap.size, 3, none⟩ (.complex .f64 p3.1 p3.2)) W.heap.size 4 _ 75 (.complex .f64 p4.1 p4.2) s3
      go_wp2_with fail
      refine bodyPost_ret (v := .agg (arr5 [p0, p1, p2, p3, p4])) ?_ rfl ?_
      · rw [results_cell1 (fn := Tryz.f33) rfl]
        simp only [List.getElem_toArray, Array.getD]
        simp [asAddr, Sem.run_pure, Result.andThen]
        rw [run_loadVar_row _ W.heap.size 75 75 _ _ _ s4 Tryz.underlying75 rfl (by kernel_rfl)]
        rfl
      · have hB1 := (((((But.refl [W.heap.size] wr).setCell ⟨W.heap.size, 0, none⟩ (.complex .f64 p0.1 p0.2) (.inl (by simp))).setCell ⟨W.heap.size, 1, none⟩ (.complex .f64 p1.1 p1.2) (.inl (by simp))).setCell ⟨W.heap.size, 2, none⟩ (.complex .f64 p2.1 p2.2) (.inl (by simp))).setCell ⟨W.heap.size, 3, none⟩ (.complex .f64 p3.1 p3.2) (.inl (by simp))).setCell ⟨W.heap.size, 4, none⟩ (.complex .f64 p4.1 p4.2) (.inl (by simp))
        have hbW : But [R] W wr := (u0.weak (by simp)).then hb (by simp; omega)
        refine ⟨hbW.then hB1 (by simp; omega), .inl ⟨[p0, p1, p2, p3, p4], c, by rw [hT.out]; exact sn_0, rfl, hr.keep hB1 (by simp; omega), hI.out, rfl, hF.out⟩⟩
end Go.Proofs.YtnghppgpdeghfaaGreatDoor
namespace Go.Proofs.YtnghppgpdeghfaaGreatDoor
open Go.RowKit Go.Proofs.YtnghppgpdeghfaaGreatDoor.Fl Go.Proofs.YtnghppgpdeghfaaGreatDoor.Pt Go.Proofs.YtnghppgpdeghfaaGreatDoor.Tx

theorem info75 : (Tryz.prog.info? 75).map (fun i => (i.zero, i.size, i.bytes)) = some (some (.agg #[.complex .f64 0 0, .complex .f64 0 0, .complex .f64 0 0, .complex .f64 0 0, .complex .f64 0 0]), 5, 80) := by kernel_rfl
abbrev Secs := List (List (Nat × Nat))
def scC (ss : Secs) : List Value := ss.flatten.map cx
/-- A slice value that owns its row of sections. -/
def OS (w : World) (B : Nat) (v : Value) (ss : Secs) : Prop := w.ownsRow B 75 5 v ss.length (scC ss)
theorem OS.keep {w w' : World} {B : Nat} {v : Value} {L : Secs} {qs : List Nat} (h : OS w B v L) (k : But qs w w') (hb : ∀ g, v.ownBlock = some g → g ∉ qs) : OS w' B v L := by
  obtain ⟨hl, h1⟩ := h
  refine ⟨hl, ?_⟩
  rcases h1 with h1 | ⟨g, cap, cur, rfl, hb', hg, r⟩
  · exact .inl h1
  · exact .inr ⟨g, cap, cur, rfl, hb', k.heap hg (hb g rfl), r⟩
theorem OS.alloc {w : World} {B : Nat} {v : Value} {L : Secs} (h : OS w B v L) (o : Obj) : OS (w.alloc o) B v L := h.keep ((But.refl [] w).alloc o) (by simp)
theorem OS.block {w : World} {B : Nat} {v : Value} {L : Secs} (h : OS w B v L) : ∀ g, v.ownBlock = some g → B ≤ g := fun g hg => (World.ownsRow.lt h g hg).1
theorem OS.lt {w : World} {B : Nat} {v : Value} {L : Secs} (h : OS w B v L) : ∀ g, v.ownBlock = some g → g < w.heap.size := fun g hg => (World.ownsRow.lt h g hg).2
theorem OS.low {w : World} {B B' : Nat} {v : Value} {l : Secs} (h : OS w B v l) (hB : B' ≤ B) : OS w B' v l := by
  obtain ⟨hl, h1⟩ := h
  refine ⟨hl, ?_⟩
  rcases h1 with h1 | ⟨g, cap, cur, rfl, hb', r⟩
  · exact .inl h1
  · exact .inr ⟨g, cap, cur, rfl, by omega, r⟩
/-- The cell number i of section number j. -/
theorem scC_at (L : Secs) (h5 : ∀ x ∈ L, x.length = 5) (j i : Nat) (x : List (Nat × Nat)) (p : Nat × Nat) (hx : L[j]? = some x) (hp : x[i]? = some p) : (scC L)[j * 5 + i]? = some (cx p) := by
  unfold scC
  rw [List.getElem?_map]
  have key : ∀ (L : Secs) (j : Nat), (∀ x ∈ L, x.length = 5) → L[j]? = some x → L.flatten[j * 5 + i]? = some p := by
    intro L
    induction L with
    | nil => intro j _ h; simp at h
    | cons y M ih =>
      intro j h5 h
      have hy := h5 y (by simp)
      cases j with
      | zero =>
        simp at h; subst h
        have hi := (List.getElem?_eq_some_iff.1 hp).1
        rw [List.flatten_cons, List.getElem?_append_left (by omega)]; simpa using hp
      | succ j =>
        rw [List.flatten_cons, List.getElem?_append_right (by omega), hy, show (j + 1) * 5 + i - 5 = j * 5 + i by omega]
        exact ih j (fun z hz => h5 z (by simp [hz])) (by simpa using h)
  rw [key L j h5 hx]; rfl
theorem OS.form {w : World} {B : Nat} {v : Value} {L : Secs} (h : OS w B v L) : (v = .slice none 0 0 ∧ L = []) ∨ ∃ g cap cur, v = .slice (some ⟨g, 0, none⟩) L.length cap ∧ B ≤ g ∧ w.heap[g]? = some (.cells cur 75 (0, 0)) ∧ L.length ≤ cap ∧ ∀ (j : Nat) (u : Value), (scC L)[j]? = some u → w.cell? ⟨g, j, none⟩ = some u := by
  obtain ⟨hl, h1⟩ := h
  rcases h1 with ⟨h1, h2⟩ | ⟨g, cap, cur, rfl, hb, hg, hnc, _, hs, ht⟩
  · exact .inl ⟨h1, List.eq_nil_of_length_eq_zero h2⟩
  · refine .inr ⟨g, cap, cur, rfl, hb, hg, hnc, fun j u hj => ?_⟩
    have hjl := (List.getElem?_eq_some_iff.1 hj).1
    rw [hl] at hjl
    rw [← ht, List.getElem?_take, if_pos (by omega)] at hj
    rw [cell_of_row w g j _ _ _ hg]
    simpa using hj
theorem OS.slice {w : World} {B : Nat} {v : Value} {l : Secs} (h : OS w B v l) : ∃ p n cap, v = .slice p n cap := by
  rcases h.form with ⟨rfl, _⟩ | ⟨g, cap, cur, rfl, _⟩
  · exact ⟨_, _, _, rfl⟩
  · exact ⟨_, _, _, rfl⟩
theorem OS.len {w : World} {B : Nat} {p : Option Addr} {n c : Nat} {l : Secs} (h : OS w B (.slice p n c) l) : n = l.length := by
  rcases h.form with ⟨h1, h2⟩ | ⟨g, cap, cur, h1, _⟩
  · injection h1 with _ h1 _; rw [h1, h2]; rfl
  · injection h1
theorem scC_snoc (L : Secs) (x : List (Nat × Nat)) : scC (L ++ [x]) = scC L ++ x.map cx := by simp [scC]
theorem five_cells (w : World) (x : List (Nat × Nat)) (hx : x.length = 5) : ∀ (j : Nat) (u : Value), (x.map cx)[j]? = some u → (w.alloc (.cells (arr5 x) 75)).cell? ((⟨w.heap.size, 0, none⟩ : Addr).add j) = some u := by
  obtain ⟨a, b, c, d, e, rfl⟩ := five x hx
  intro j u hj
  have hr : (w.alloc (.cells (arr5 [a, b, c, d, e]) 75)).heap[w.heap.size]? = some (.cells (arr5 [a, b, c, d, e]) 75 (0, 0)) := Array.getElem?_push_size
  have hadd : (⟨w.heap.size, 0, none⟩ : Addr).add j = ⟨w.heap.size, j, none⟩ := by unfold Addr.add; split <;> simp_all
  rw [hadd, cell_of_row _ _ j _ _ _ hr]
  match j, hj with
  | 0, h => exact h
  | 1, h => exact h
  | 2, h => exact h
  | 3, h => exact h
  | 4, h => exact h
  | j + 5, h => simp at h
/-- append of a section. -/
theorem wpList_append_os {w : World} {ops : Array Oper} {rest : List Oper} {o : Oper} {a : Act} {Q : Exit → Act → World → Prop} (hgd : o.guard = none) (s x : Operand)
    (ho : o.op = .call { callee := .builtin .append, args := #[s, x], argTypes := #[38, 38] }) (B : Nat) (v : Value) (L : Secs) (hs : a.eval s = v) (hown : OS w B v L)
    (ad : Addr) (c : Nat) (y : List (Nat × Nat)) (hx : a.eval x = .slice (some ad) 1 c) (hy : y.length = 5) (hN : ∀ (j : Nat) (u : Value), (y.map cx)[j]? = some u → w.cell? (ad.add j) = some u) (h63 : L.length ≤ 1000) (hbase : B ≤ w.heap.size)
    (h : ∀ v' w', OS w' B v' (L ++ [y]) → w.grownBy w' v.ownBlock → wpList Tryz.prog ops Q rest (a.put o.dst v') w') : wpList Tryz.prog ops Q (o :: rest) a w := by
  obtain ⟨i, hi, hz, hsz, hby⟩ := info_parts info75
  refine wpList_append_own_at w hgd s x 38 ho B 75 i _ 5 80 Tryz.underlying38 hi hz hsz hby rfl (by omega) v L.length (scC L) hs hown ad 1 c (y.map cx) hx (by simp [hy]) hN ?_ (by unfold maxLen; omega) (by omega) hbase ?_
  · intro u hu
    obtain ⟨b, _, rfl⟩ := List.mem_map.1 hu
    rfl
  · intro v' w' h1 h2 h3 h4
    refine h v' w' ?_ h2
    unfold OS
    rw [List.length_append, List.length_singleton, scC_snoc]; exact h1
/-- .. in a region whose order is drawn. -/
theorem step_append_os {w : World} {ops : Array Oper} {o : Oper} {a : Act} {K : Act → World → Prop} {Q : Exit → Act → World → Prop} {E : Prop} (hgd : o.guard = none) (s x : Operand)
    (ho : o.op = .call { callee := .builtin .append, args := #[s, x], argTypes := #[38, 38] }) (B : Nat) (v : Value) (L : Secs) (hs : a.eval s = v) (hown : OS w B v L)
    (ad : Addr) (c : Nat) (y : List (Nat × Nat)) (hx : a.eval x = .slice (some ad) 1 c) (hy : y.length = 5) (hN : ∀ (j : Nat) (u : Value), (y.map cx)[j]? = some u → w.cell? (ad.add j) = some u) (h63 : L.length ≤ 1000) (hbase : B ≤ w.heap.size)
    (h : ∀ v' w', OS w' B v' (L ++ [y]) → w.grownBy w' v.ownBlock → K (a.put o.dst v') w') : if Region.wanted o (yielded ops a.tmps) = true then Oper.wp Tryz.prog o a w K Q else E := by
  have hw : Region.wanted o (yielded ops a.tmps) = true := by simp [Region.wanted, hgd]
  rw [if_pos hw]
  obtain ⟨i, hi, hz, hsz, hby⟩ := info_parts info75
  obtain ⟨v', w', hr, h2, h3, _, _⟩ := run_append_own_at (P := Tryz.prog) w B 38 o.type 75 i _ 5 80 Tryz.underlying38 hi hz hsz hby rfl (by omega) v L.length (scC L) hown ad 1 c (y.map cx) (by simp [hy]) hN (fun u hu => by
    obtain ⟨b, _, rfl⟩ := List.mem_map.1 hu
    rfl) (by unfold maxLen; omega) (by omega) hbase
  unfold Oper.wp execOp
  simp only [ho, resolve, invoke, builtin, Sem.run_bind, Sem.run_pure, Result.andThen_ok, List.map_toArray, List.map_cons, List.map_nil, hs, hx, hr]
  refine h v' w' ?_ h3
  unfold OS
  rw [List.length_append, List.length_singleton, scC_snoc]; exact h2
end Go.Proofs.YtnghppgpdeghfaaGreatDoor
