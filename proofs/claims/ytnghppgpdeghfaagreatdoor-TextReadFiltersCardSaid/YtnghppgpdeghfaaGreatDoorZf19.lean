/- How a filter by zeros, poles and gain is read. The closure of ReadZpk. text.ReadZpk. -/
import Derived.Test.YtnghppgpdeghfaaGreatDoorZf18
namespace Go.Proofs.YtnghppgpdeghfaaGreatDoor
open Go.RowKit Go.Proofs.YtnghppgpdeghfaaGreatDoor.Fl Go.Proofs.YtnghppgpdeghfaaGreatDoor.Pt Go.Proofs.YtnghppgpdeghfaaGreatDoor.Tx

theorem lsT_bar : ∀ (l m : List (Nat × Nat)) (A B : List UInt8), (∀ p ∈ l, Wf p) → (∀ p ∈ m, Wf p) → lsT l ++ 32 :: 124 :: A = lsT m ++ 32 :: 124 :: B → eqL l m ∧ A = B
  | [], [], A, B, _, _, h => ⟨trivial, by simpa [lsT] using h⟩
  | [], q :: m, _, _, _, _, h => by simp [lsT, num] at h
  | p :: l, [], _, _, _, _, h => by simp [lsT, num] at h
  | p :: l, q :: m, A, B, hl, hm, h => by
    have h1 : 32 :: (num p.1 p.2 ++ (lsT l ++ 32 :: 124 :: A)) = 32 :: (num q.1 q.2 ++ (lsT m ++ 32 :: 124 :: B)) := by simpa [lsT] using h
    obtain ⟨e1, e2⟩ := num_cut (hl p (by simp)) (hm q (by simp)) (List.cons.inj h1).2
    obtain ⟨e3, e4⟩ := lsT_bar l m A B (fun x hx => hl x (by simp [hx])) (fun x hx => hm x (by simp [hx])) e2
    exact ⟨⟨e1, e3⟩, e4⟩
theorem ro_err (bar : Bool) (L : List UInt8) : ∀ (k a n b f : Nat), n ≤ 24 → 25 ≤ n + k → ro bar L k a n = (false, b, f) → f = 12 ∨ f = 2 ∨ f = 5
  | 0, a, n, b, f, h1, h2, h => by omega
  | k + 1, a, n, b, f, h1, h2, h => by
    by_cases he : bar = false ∧ ¬ a < L.length
    · rw [ro_end he] at h; cases h
    rcases pair (x := tk L [32] a) with ⟨c, k1⟩ | ⟨c, k1⟩
    · by_cases hb : bar = true ∧ L[c]? = some 124
      · rw [ro_bar he k1 hb] at h; cases h
      by_cases hf : L[c]? = some 40 ∧ n = 24
      · rw [ro_full he k1 hb hf] at h; cases h; exact .inr (.inl rfl)
      rcases pair (x := nu L c) with ⟨d, k2⟩ | ⟨d, k2⟩
      · by_cases hn : FiN L c d
        · rw [ro_next he k1 hb hf k2 hn] at h
          have h40 : L[c]? = some 40 := by
            by_cases h40 : L[c]? = some 40
            · exact h40
            · rw [nu_1 (by rw [tk, if_neg h40] : tk L [40] c = (false, c))] at k2; cases k2
          exact ro_err bar L k d (n + 1) b f (by have : n ≠ 24 := fun h => hf ⟨h40, h⟩; omega) (by omega) h
        · rw [ro_nan he k1 hb hf k2 hn] at h; cases h; exact .inr (.inr rfl)
      · rw [ro_nu he k1 hb hf k2] at h; cases h; exact .inl rfl
    · rw [ro_sp he k1] at h; cases h; exact .inl rfl
/-- Without the bar the end is reached. -/
theorem ro_whole (L : List UInt8) : ∀ (k a n c f : Nat), ro false L k a n = (true, c, f) → ¬ c < L.length
  | 0, a, n, c, f, h => by rw [ro] at h; cases h
  | k + 1, a, n, c, f, h => by
    by_cases he : (false : Bool) = false ∧ ¬ a < L.length
    · rw [ro_end he] at h; cases h; exact he.2
    have hb : ∀ c : Nat, ¬ ((false : Bool) = true ∧ L[c]? = some 124) := fun c h => by cases h.1
    rcases pair (x := tk L [32] a) with ⟨b, k1⟩ | ⟨b, k1⟩
    · by_cases hf : L[b]? = some 40 ∧ n = 24
      · rw [ro_full he k1 (hb b) hf] at h; cases h
      rcases pair (x := nu L b) with ⟨d, k2⟩ | ⟨d, k2⟩
      · by_cases hn : FiN L b d
        · rw [ro_next he k1 (hb b) hf k2 hn] at h; exact ro_whole L k d (n + 1) c f h
        · rw [ro_nan he k1 (hb b) hf k2 hn] at h; cases h
      · rw [ro_nu he k1 (hb b) hf k2] at h; cases h
    · rw [ro_sp he k1] at h; cases h
def barT : List UInt8 := [32, 124]
open Classical in
/-- How a whole such text is read: the place, the error (0: none). -/
noncomputable def zp (L : List UInt8) : Bool × Nat × Nat :=
  match tk L zpkT 0 with
  | (false, b) => (false, b, 12)
  | (true, b) => match nu L b with
    | (false, c) => (false, c, 12)
    | (true, c) => if FiN L b c then match tk L barT c with
        | (false, d) => (false, d, 12)
        | (true, d) => match ro true L 26 d 0 with
          | (false, x) => (false, x)
          | (true, e, _) => ro false L 26 e 0
      else (false, b, 5)
section
variable {L : List UInt8} {b c d e f : Nat}
theorem zp_1 (h1 : tk L zpkT 0 = (false, b)) : zp L = (false, b, 12) := by rw [zp, h1]
theorem zp_2 (h1 : tk L zpkT 0 = (true, b)) (h2 : nu L b = (false, c)) : zp L = (false, c, 12) := by simp only [zp, h1, h2]
theorem zp_3 (h1 : tk L zpkT 0 = (true, b)) (h2 : nu L b = (true, c)) (h3 : ¬ FiN L b c) : zp L = (false, b, 5) := by simp only [zp, h1, h2]; rw [if_neg h3]
theorem zp_4 (h1 : tk L zpkT 0 = (true, b)) (h2 : nu L b = (true, c)) (h3 : FiN L b c) (h4 : tk L barT c = (false, d)) : zp L = (false, d, 12) := by simp only [zp, h1, h2]; rw [if_pos h3, h4]
theorem zp_5 (h1 : tk L zpkT 0 = (true, b)) (h2 : nu L b = (true, c)) (h3 : FiN L b c) (h4 : tk L barT c = (true, d)) (h5 : ro true L 26 d 0 = (false, e, f)) : zp L = (false, e, f) := by simp only [zp, h1, h2]; rw [if_pos h3, h4]; simp only [h5]
theorem zp_6 (h1 : tk L zpkT 0 = (true, b)) (h2 : nu L b = (true, c)) (h3 : FiN L b c) (h4 : tk L barT c = (true, d)) (h5 : ro true L 26 d 0 = (true, e, f)) : zp L = ro false L 26 e 0 := by simp only [zp, h1, h2]; rw [if_pos h3, h4]; simp only [h5]
end
/-- What such a text says. -/
structure ZpT (L : List UInt8) (g : Nat × Nat) (zs ps : List (Nat × Nat)) : Prop where
  wg : Wf g
  fg : finB g.1 g.2 = true
  wz : ∀ p ∈ zs, p.1 < 18446744073709551616 ∧ p.2 < 18446744073709551616 ∧ finB p.1 p.2 = true
  wp : ∀ p ∈ ps, p.1 < 18446744073709551616 ∧ p.2 < 18446744073709551616 ∧ finB p.1 p.2 = true
  nz : zs.length ≤ 24
  np : ps.length ≤ 24
  text : L = zpkT ++ (num g.1 g.2 ++ (32 :: 124 :: (lsT zs ++ (32 :: 124 :: lsT ps))))
/-- .. in but one way. -/
theorem ZpT.one {L : List UInt8} {g h : Nat × Nat} {zs ps ys qs : List (Nat × Nat)} (x : ZpT L g zs ps) (y : ZpT L h ys qs) : eqC g h ∧ eqL zs ys ∧ eqL ps qs := by
  have e := x.text.symm.trans y.text
  obtain ⟨e1, e2⟩ := num_cut x.wg y.wg (List.append_cancel_left e)
  have e3 := (List.cons.inj (List.cons.inj e2).2).2
  obtain ⟨e4, e5⟩ := lsT_bar zs ys _ _ (fun p hp => ⟨(x.wz p hp).1, (x.wz p hp).2.1⟩) (fun p hp => ⟨(y.wz p hp).1, (y.wz p hp).2.1⟩) e3
  exact ⟨e1, e4, lsT_inj ps qs (fun p hp => ⟨(x.wp p hp).1, (x.wp p hp).2.1⟩) (fun p hp => ⟨(y.wp p hp).1, (y.wp p hp).2.1⟩) e5⟩
/-- The pieces make the whole. -/
theorem zpT_of {L : List UInt8} {b c d e k : Nat} {g : Nat × Nat} {zs ps : List (Nat × Nat)} (hw : Wf g) (hg : finB g.1 g.2 = true) (i1 : Is L 0 zpkT b) (i2 : Is L b (num g.1 g.2) c) (i3 : Is L c barT d) (i4 : Is L d (lsT zs ++ [32, 124]) e) (i5 : Is L e (lsT ps) k) (hk : ¬ k < L.length)
    (wz : ∀ p ∈ zs, p.1 < 18446744073709551616 ∧ p.2 < 18446744073709551616 ∧ finB p.1 p.2 = true) (wp : ∀ p ∈ ps, p.1 < 18446744073709551616 ∧ p.2 < 18446744073709551616 ∧ finB p.1 p.2 = true) (nz : zs.length ≤ 24) (np : ps.length ≤ 24) : ZpT L g zs ps :=
  ⟨hw, hg, wz, wp, nz, np, by
    have h := ((((i1.trans i2).trans i3).trans i4).trans i5).whole (by omega)
    rw [h]; simp [barT]⟩
end Go.Proofs.YtnghppgpdeghfaaGreatDoor
namespace Go.Proofs.YtnghppgpdeghfaaGreatDoor
open Go.RowKit Go.Proofs.YtnghppgpdeghfaaGreatDoor.Fl Go.Proofs.YtnghppgpdeghfaaGreatDoor.Pt Go.Proofs.YtnghppgpdeghfaaGreatDoor.Tx

theorem OZ.low {w : World} {B B' : Nat} {v : Value} {l : List (Nat × Nat)} (h : OZ w B v l) (hB : B' ≤ B) : OZ w B' v l := by
  obtain ⟨hl, h1⟩ := h
  refine ⟨hl, ?_⟩
  rcases h1 with h1 | ⟨g, cap, cur, rfl, hb', r⟩
  · exact .inl h1
  · exact .inr ⟨g, cap, cur, rfl, by omega, r⟩
theorem OZ.slice {w : World} {B : Nat} {v : Value} {l : List (Nat × Nat)} (h : OZ w B v l) : ∃ p n cap, v = .slice p n cap := by
  rcases h.form with ⟨rfl, _⟩ | ⟨g, cap, cur, rfl, _⟩
  · exact ⟨_, _, _, rfl⟩
  · exact ⟨_, _, _, rfl⟩
theorem rts_ok_true {R a c f : Nat} {s : ByteArray} {W : World} (hs : s.size ≤ 65536) (ha : a ≤ s.size) (hR : 15 ≤ R) (h : Rdr W R s a) (hg : Gl W) (k : ro true s.data.toList 26 a 0 = (true, c, f)) : Calls Tryz.prog 30 #[.pointer (some ⟨R, 0, none⟩), .bool true] W fun e w' => ∃ l p n cap, e = .returned (.slice p n cap) ∧ (OZ w' W.heap.size (.slice p n cap) l ∧ Is s.data.toList a (lsT l ++ [32, 124]) c ∧ l.length ≤ 24 ∧ ∀ p ∈ l, p.1 < 18446744073709551616 ∧ p.2 < 18446744073709551616 ∧ finB p.1 p.2 = true) ∧ Rdr w' R s c ∧ But [R] W w' := by
  refine (roots_true R a s hs ha hR W h hg).mono ?_
  rintro e w' ⟨h1, ⟨l, d, v, h2, h3, h4, h5, h6, h7⟩ | ⟨b, g, h2, h3⟩⟩
  · rw [k] at h2; cases h2
    obtain ⟨p, n, cap, rfl⟩ := h4.slice
    exact ⟨l, p, n, cap, h3, ⟨h4, h6, h7⟩, h5, h1⟩
  · rw [k] at h2; cases h2
theorem rts_no_true {R a c f : Nat} {s : ByteArray} {W : World} (hs : s.size ≤ 65536) (ha : a ≤ s.size) (hR : 15 ≤ R) (h : Rdr W R s a) (hg : Gl W) (k : ro true s.data.toList 26 a 0 = (false, c, f)) : Calls Tryz.prog 30 #[.pointer (some ⟨R, 0, none⟩), .bool true] W fun e w' => e = Fa c f ∧ But [R] W w' := by
  refine (roots_true R a s hs ha hR W h hg).mono ?_
  rintro e w' ⟨h1, ⟨l, d, v, h2, h3, h4, h5, h6, h7⟩ | ⟨b, g, h2, h3⟩⟩
  · rw [k] at h2; cases h2
  · rw [k] at h2; cases h2
    exact ⟨h3, h1⟩
theorem rts_ok_false {R a c f : Nat} {s : ByteArray} {W : World} (hs : s.size ≤ 65536) (ha : a ≤ s.size) (hR : 15 ≤ R) (h : Rdr W R s a) (hg : Gl W) (k : ro false s.data.toList 26 a 0 = (true, c, f)) : Calls Tryz.prog 30 #[.pointer (some ⟨R, 0, none⟩), .bool false] W fun e w' => ∃ l p n cap, e = .returned (.slice p n cap) ∧ (OZ w' W.heap.size (.slice p n cap) l ∧ Is s.data.toList a (lsT l ++ []) c ∧ l.length ≤ 24 ∧ ∀ p ∈ l, p.1 < 18446744073709551616 ∧ p.2 < 18446744073709551616 ∧ finB p.1 p.2 = true) ∧ Rdr w' R s c ∧ But [R] W w' := by
  refine (roots_false R a s hs ha hR W h hg).mono ?_
  rintro e w' ⟨h1, ⟨l, d, v, h2, h3, h4, h5, h6, h7⟩ | ⟨b, g, h2, h3⟩⟩
  · rw [k] at h2; cases h2
    obtain ⟨p, n, cap, rfl⟩ := h4.slice
    exact ⟨l, p, n, cap, h3, ⟨h4, h6, h7⟩, h5, h1⟩
  · rw [k] at h2; cases h2
theorem rts_no_false {R a c f : Nat} {s : ByteArray} {W : World} (hs : s.size ≤ 65536) (ha : a ≤ s.size) (hR : 15 ≤ R) (h : Rdr W R s a) (hg : Gl W) (k : ro false s.data.toList 26 a 0 = (false, c, f)) : Calls Tryz.prog 30 #[.pointer (some ⟨R, 0, none⟩), .bool false] W fun e w' => e = Fa c f ∧ But [R] W w' := by
  refine (roots_false R a s hs ha hR W h hg).mono ?_
  rintro e w' ⟨h1, ⟨l, d, v, h2, h3, h4, h5, h6, h7⟩ | ⟨b, g, h2, h3⟩⟩
  · rw [k] at h2; cases h2
  · rw [k] at h2; cases h2
    exact ⟨h3, h1⟩

/-- What the variable of ReadZpk holds. -/
def ZvA (C B : Nat) (L : List UInt8) (w : World) : Prop := ∃ x y pz nz kz pp np kp zs ps, w.heap[C]? = some (.cells #[.slice pz nz kz, .slice pp np kp, .complex .f64 x y] 35 (0, 0)) ∧ OZ w B (.slice pz nz kz) zs ∧ OZ w B (.slice pp np kp) ps ∧ ZpT L (x, y) zs ps
theorem ZvA.keep {C B : Nat} {L : List UInt8} {w w' : World} {qs : List Nat} (h : ZvA C B L w) (k : But qs w w') (hC : C ∉ qs) (hq : ∀ q ∈ qs, q < B) : ZvA C B L w' := by
  obtain ⟨x, y, pz, nz, kz, pp, np, kp, zs, ps, h1, h2, h3, h4⟩ := h
  exact ⟨x, y, pz, nz, kz, pp, np, kp, zs, ps, k.heap h1 hC, h2.keep k (fun g hg hm => by have := h2.block g hg; have := hq g hm; omega), h3.keep k (fun g hg hm => by have := h3.block g hg; have := hq g hm; omega), h4⟩
set_option linter.unusedSimpArgs false in
set_option maxRecDepth 100000 in
set_option maxHeartbeats 2000000 in
theorem zpk1_nan (R C : Nat) (s : ByteArray) (hs : s.size ≤ 65536) (hR : 15 ≤ R) (W : World) (h : Rdr W R s 0) (hg : Gl W)  (b c : Nat) (k1 : tk s.data.toList zpkT 0 = (true, b)) (k2 : nu s.data.toList b = (true, c)) (kf : ¬ FiN s.data.toList b c) : Calls Tryz.prog 27 #[.pointer (some ⟨R, 0, none⟩), .pointer (some ⟨C, 0, none⟩)] W fun e w' => But [R, C] W w' ∧ e = Fa b (5 : Nat) := by
  have K1 := Lib.hid k1
  have K2 := Lib.hid k2
  have l1 : b ≤ s.size := by have := tk_le k1 (Nat.zero_le _); simpa using this
  have l2 : c ≤ s.size := by have := nu_le k2 (by simpa using l1); simpa using this
  have KF := Lib.hid kf
  clear k1 k2 kf
  unfold zpkT at K1
  go_enter Tryz.func27, Tryz.ntmps27
  have tok : True := trivial
  go_wp2_with (go_at_call 28; have _t := tok; clear tok; refine (take_ok (w0 := W) [122, 112, 107, 32] (by decide) (by omega) (Nat.zero_le _) h (But.refl _ _) K1.out).mono ?_; rintro e w1 ⟨rfl, hr1, hb1⟩; have hg1 := hg.keep hb1 (by simpa using hR))
  have tok : True := trivial
  go_wp2_with (go_at_call 29; have _t := tok; clear tok; refine (fi_nan hs l1 hR hr1 hg1 K2.out KF.out).mono ?_; rintro e w2 ⟨he2, hb2⟩; subst he2; simp only [Fa])
  exact ⟨rfl, (hb1.trans hb2).weak (by simp; omega), rfl⟩

set_option linter.unusedSimpArgs false in
set_option maxRecDepth 100000 in
set_option maxHeartbeats 2000000 in
theorem zpk1_no3 (R C : Nat) (s : ByteArray) (hs : s.size ≤ 65536) (hR : 15 ≤ R) (hC15 : 15 ≤ C) (hn : R ≠ C) (W : World) (h : Rdr W R s 0) (hg : Gl W) (hC : W.heap[C]? = some (.cells #[.slice none 0 0, .slice none 0 0, .complex .f64 0 0] 35 (0, 0))) (b c d : Nat) (k1 : tk s.data.toList zpkT 0 = (true, b)) (k2 : nu s.data.toList b = (true, c)) (k3 : FiN s.data.toList b c) (kf : tk s.data.toList barT c = (false, d)) : Calls Tryz.prog 27 #[.pointer (some ⟨R, 0, none⟩), .pointer (some ⟨C, 0, none⟩)] W fun e w' => But [R, C] W w' ∧ e = Fa d (12 : Nat) := by
  have hCW : C < W.heap.size := (Array.getElem?_eq_some_iff.1 hC).1
  have hRW : R < W.heap.size := (Array.getElem?_eq_some_iff.1 h).1
  have K1 := Lib.hid k1
  have K2 := Lib.hid k2
  have K3 := Lib.hid k3
  have l1 : b ≤ s.size := by have := tk_le k1 (Nat.zero_le _); simpa using this
  have l2 : c ≤ s.size := by have := nu_le k2 (by simpa using l1); simpa using this
  have KF := Lib.hid kf
  clear k1 k2 k3 kf
  unfold zpkT at K1
  unfold barT at KF
  go_enter Tryz.func27, Tryz.ntmps27
  have tok : True := trivial
  go_wp2_with (go_at_call 28; have _t := tok; clear tok; refine (take_ok (w0 := W) [122, 112, 107, 32] (by decide) (by omega) (Nat.zero_le _) h (But.refl _ _) K1.out).mono ?_; rintro e w1 ⟨rfl, hr1, hb1⟩; have hg1 := hg.keep hb1 (by simpa using hR))
  have tok : True := trivial
  go_wp2_with (go_at_call 29; have _t := tok; clear tok; refine (fi_ok hs l1 hR hr1 hg1 K2.out K3.out).mono ?_; rintro e w2 ⟨x, y, rfl, hxy, hr2, hb2⟩; have HXY := Lib.hid hxy; clear hxy; have bC := (hb1.trans hb2).heap hC (by simp; omega); have cC : w2.cell? ⟨C, 2, none⟩ = some (.complex .f64 0 0) := (by rw [cell_of_row w2 C 2 _ _ _ bC]; rfl); have fC : w2.frozen? ⟨C, 2, none⟩ = false := blk_free bC; have b2 : (w2.setCell ⟨C, 2, none⟩ (.complex .f64 x y)).heap[C]? = some (.cells #[.slice none 0 0, .slice none 0 0, .complex .f64 x y] 35 (0, 0)) := blk_set _ _ _ _ _ _ bC; have hr2s : Rdr (w2.setCell ⟨C, 2, none⟩ (.complex .f64 x y)) R s c := (Below.heap_setCell w2 ⟨C, 2, none⟩ (.complex .f64 x y) R hn).trans hr2; have hb2s : But [R, C] W (w2.setCell ⟨C, 2, none⟩ (.complex .f64 x y)) := ((hb1.trans hb2).weak (by simp; omega)).setCell _ _ (.inl (by simp)); have hg2 := hg.keep hb2s (by simp; omega))
  have tok : True := trivial
  go_wp2_with (go_at_call 28; have _t := tok; clear tok; refine (take_no (w0 := (w2.setCell ⟨C, 2, none⟩ (.complex .f64 x y))) [32, 124] (by decide) (by omega) l2 hr2s (But.refl _ _) KF.out).mono ?_; rintro e w3 ⟨he3, hb3⟩; subst he3; simp only [Fa])
  exact ⟨rfl, hb2s.trans (hb3.weak (by simp; omega)), rfl⟩

set_option linter.unusedSimpArgs false in
set_option maxRecDepth 100000 in
set_option maxHeartbeats 2000000 in
theorem zpk1_no4 (R C : Nat) (s : ByteArray) (hs : s.size ≤ 65536) (hR : 15 ≤ R) (hC15 : 15 ≤ C) (hn : R ≠ C) (W : World) (h : Rdr W R s 0) (hg : Gl W) (hC : W.heap[C]? = some (.cells #[.slice none 0 0, .slice none 0 0, .complex .f64 0 0] 35 (0, 0))) (b c d e1 f1 : Nat) (k1 : tk s.data.toList zpkT 0 = (true, b)) (k2 : nu s.data.toList b = (true, c)) (k3 : FiN s.data.toList b c) (k4 : tk s.data.toList barT c = (true, d)) (kf : ro true s.data.toList 26 d 0 = (false, e1, f1)) : Calls Tryz.prog 27 #[.pointer (some ⟨R, 0, none⟩), .pointer (some ⟨C, 0, none⟩)] W fun e w' => But [R, C] W w' ∧ e = Fa e1 f1 := by
  have hCW : C < W.heap.size := (Array.getElem?_eq_some_iff.1 hC).1
  have hRW : R < W.heap.size := (Array.getElem?_eq_some_iff.1 h).1
  have K1 := Lib.hid k1
  have K2 := Lib.hid k2
  have K3 := Lib.hid k3
  have K4 := Lib.hid k4
  have l1 : b ≤ s.size := by have := tk_le k1 (Nat.zero_le _); simpa using this
  have l2 : c ≤ s.size := by have := nu_le k2 (by simpa using l1); simpa using this
  have l3 : d ≤ s.size := by have := tk_le k4 (by simpa using l2); simpa using this
  have KF := Lib.hid kf
  clear k1 k2 k3 k4 kf
  unfold zpkT at K1
  unfold barT at K4
  go_enter Tryz.func27, Tryz.ntmps27
  have tok : True := trivial
  go_wp2_with (go_at_call 28; have _t := tok; clear tok; refine (take_ok (w0 := W) [122, 112, 107, 32] (by decide) (by omega) (Nat.zero_le _) h (But.refl _ _) K1.out).mono ?_; rintro e w1 ⟨rfl, hr1, hb1⟩; have hg1 := hg.keep hb1 (by simpa using hR))
  have tok : True := trivial
  go_wp2_with (go_at_call 29; have _t := tok; clear tok; refine (fi_ok hs l1 hR hr1 hg1 K2.out K3.out).mono ?_; rintro e w2 ⟨x, y, rfl, hxy, hr2, hb2⟩; have HXY := Lib.hid hxy; clear hxy; have bC := (hb1.trans hb2).heap hC (by simp; omega); have cC : w2.cell? ⟨C, 2, none⟩ = some (.complex .f64 0 0) := (by rw [cell_of_row w2 C 2 _ _ _ bC]; rfl); have fC : w2.frozen? ⟨C, 2, none⟩ = false := blk_free bC; have b2 : (w2.setCell ⟨C, 2, none⟩ (.complex .f64 x y)).heap[C]? = some (.cells #[.slice none 0 0, .slice none 0 0, .complex .f64 x y] 35 (0, 0)) := blk_set _ _ _ _ _ _ bC; have hr2s : Rdr (w2.setCell ⟨C, 2, none⟩ (.complex .f64 x y)) R s c := (Below.heap_setCell w2 ⟨C, 2, none⟩ (.complex .f64 x y) R hn).trans hr2; have hb2s : But [R, C] W (w2.setCell ⟨C, 2, none⟩ (.complex .f64 x y)) := ((hb1.trans hb2).weak (by simp; omega)).setCell _ _ (.inl (by simp)); have hg2 := hg.keep hb2s (by simp; omega))
  have tok : True := trivial
  go_wp2_with (go_at_call 28; have _t := tok; clear tok; refine (take_ok [32, 124] (by decide) (by omega) l2 hr2s (But.refl _ _) K4.out).mono ?_; rintro e w3 ⟨rfl, hr3, hb3⟩; have bC3 := hb3.heap b2 (by simp; omega); have hb3s : But [R, C] W w3 := hb2s.trans (hb3.weak (by simp; omega)); have hg3 := hg.keep hb3s (by simp; omega))
  have tok : True := trivial
  go_wp2_with (go_at_call 30; have _t := tok; clear tok; refine (rts_no_true hs l3 hR hr3 hg3 KF.out).mono ?_; rintro e w4 ⟨he4, hb4⟩; subst he4; simp only [Fa])
  exact ⟨rfl, hb3s.trans (hb4.weak (by simp; omega)), rfl⟩

set_option linter.unusedSimpArgs false in
set_option maxRecDepth 100000 in
set_option maxHeartbeats 2000000 in
theorem zpk1_no5 (R C : Nat) (s : ByteArray) (hs : s.size ≤ 65536) (hR : 15 ≤ R) (hC15 : 15 ≤ C) (hn : R ≠ C) (W : World) (h : Rdr W R s 0) (hg : Gl W) (hC : W.heap[C]? = some (.cells #[.slice none 0 0, .slice none 0 0, .complex .f64 0 0] 35 (0, 0))) (b c d e1 f1 : Nat) (k1 : tk s.data.toList zpkT 0 = (true, b)) (k2 : nu s.data.toList b = (true, c)) (k3 : FiN s.data.toList b c) (k4 : tk s.data.toList barT c = (true, d)) (k5 : ro true s.data.toList 26 d 0 = (true, e1, f1)) (e2 f2 : Nat) (kf : ro false s.data.toList 26 e1 0 = (false, e2, f2)) : Calls Tryz.prog 27 #[.pointer (some ⟨R, 0, none⟩), .pointer (some ⟨C, 0, none⟩)] W fun e w' => But [R, C] W w' ∧ e = Fa e2 f2 := by
  have hCW : C < W.heap.size := (Array.getElem?_eq_some_iff.1 hC).1
  have hRW : R < W.heap.size := (Array.getElem?_eq_some_iff.1 h).1
  have K1 := Lib.hid k1
  have K2 := Lib.hid k2
  have K3 := Lib.hid k3
  have K4 := Lib.hid k4
  have K5 := Lib.hid k5
  have l1 : b ≤ s.size := by have := tk_le k1 (Nat.zero_le _); simpa using this
  have l2 : c ≤ s.size := by have := nu_le k2 (by simpa using l1); simpa using this
  have l3 : d ≤ s.size := by have := tk_le k4 (by simpa using l2); simpa using this
  have KF := Lib.hid kf
  clear k1 k2 k3 k4 k5 kf
  unfold zpkT at K1
  unfold barT at K4
  go_enter Tryz.func27, Tryz.ntmps27
  have tok : True := trivial
  go_wp2_with (go_at_call 28; have _t := tok; clear tok; refine (take_ok (w0 := W) [122, 112, 107, 32] (by decide) (by omega) (Nat.zero_le _) h (But.refl _ _) K1.out).mono ?_; rintro e w1 ⟨rfl, hr1, hb1⟩; have hg1 := hg.keep hb1 (by simpa using hR))
  have tok : True := trivial
  go_wp2_with (go_at_call 29; have _t := tok; clear tok; refine (fi_ok hs l1 hR hr1 hg1 K2.out K3.out).mono ?_; rintro e w2 ⟨x, y, rfl, hxy, hr2, hb2⟩; have HXY := Lib.hid hxy; clear hxy; have bC := (hb1.trans hb2).heap hC (by simp; omega); have cC : w2.cell? ⟨C, 2, none⟩ = some (.complex .f64 0 0) := (by rw [cell_of_row w2 C 2 _ _ _ bC]; rfl); have fC : w2.frozen? ⟨C, 2, none⟩ = false := blk_free bC; have b2 : (w2.setCell ⟨C, 2, none⟩ (.complex .f64 x y)).heap[C]? = some (.cells #[.slice none 0 0, .slice none 0 0, .complex .f64 x y] 35 (0, 0)) := blk_set _ _ _ _ _ _ bC; have hr2s : Rdr (w2.setCell ⟨C, 2, none⟩ (.complex .f64 x y)) R s c := (Below.heap_setCell w2 ⟨C, 2, none⟩ (.complex .f64 x y) R hn).trans hr2; have hb2s : But [R, C] W (w2.setCell ⟨C, 2, none⟩ (.complex .f64 x y)) := ((hb1.trans hb2).weak (by simp; omega)).setCell _ _ (.inl (by simp)); have hg2 := hg.keep hb2s (by simp; omega))
  have tok : True := trivial
  go_wp2_with (go_at_call 28; have _t := tok; clear tok; refine (take_ok [32, 124] (by decide) (by omega) l2 hr2s (But.refl _ _) K4.out).mono ?_; rintro e w3 ⟨rfl, hr3, hb3⟩; have bC3 := hb3.heap b2 (by simp; omega); have hb3s : But [R, C] W w3 := hb2s.trans (hb3.weak (by simp; omega)); have hg3 := hg.keep hb3s (by simp; omega))
  have tok : True := trivial
  go_wp2_with (go_at_call 30; have _t := tok; clear tok; refine (rts_ok_true hs l3 hR hr3 hg3 K5.out).mono ?_; rintro e w4 ⟨zs, pz, nz, kz, rfl, hzz, hr4, hb4⟩; have HZ := Lib.hid hzz; clear hzz; have bC4 := hb4.heap bC3 (by simp; omega); have cC4 : w4.cell? ⟨C, 0, none⟩ = some (.slice none 0 0) := (by rw [cell_of_row w4 C 0 _ _ _ bC4]; rfl); have fC4 : w4.frozen? ⟨C, 0, none⟩ = false := blk_free bC4; have b4 : (w4.setCell ⟨C, 0, none⟩ (.slice pz nz kz)).heap[C]? = some (.cells #[.slice pz nz kz, .slice none 0 0, .complex .f64 x y] 35 (0, 0)) := blk_set _ _ _ _ _ _ bC4; have hr4s : Rdr (w4.setCell ⟨C, 0, none⟩ (.slice pz nz kz)) R s e1 := (Below.heap_setCell w4 ⟨C, 0, none⟩ (.slice pz nz kz) R hn).trans hr4; have hb4s : But [R, C] W (w4.setCell ⟨C, 0, none⟩ (.slice pz nz kz)) := (hb3s.trans (hb4.weak (by simp; omega))).setCell _ _ (.inl (by simp)); have hg4 := hg.keep hb4s (by simp; omega); have hs3 := hb3s.size; have l4 : e1 ≤ s.size := (by have := HZ.out.2.1.le (by simpa using l3); simpa using this))
  have tok : True := trivial
  go_wp2_with (go_at_call 30; have _t := tok; clear tok; refine (rts_no_false hs l4 hR hr4s hg4 KF.out).mono ?_; rintro e w5 ⟨he5, hb5⟩; subst he5; simp only [Fa])
  exact ⟨rfl, hb4s.trans (hb5.weak (by simp; omega)), rfl⟩

set_option linter.unusedSimpArgs false in
set_option maxRecDepth 100000 in
set_option maxHeartbeats 2000000 in
theorem zpk1_ok (R C : Nat) (s : ByteArray) (hs : s.size ≤ 65536) (hR : 15 ≤ R) (hC15 : 15 ≤ C) (hn : R ≠ C) (W : World) (h : Rdr W R s 0) (hg : Gl W) (hC : W.heap[C]? = some (.cells #[.slice none 0 0, .slice none 0 0, .complex .f64 0 0] 35 (0, 0))) (b c d e1 f1 e2 f2 : Nat) (k1 : tk s.data.toList zpkT 0 = (true, b)) (k2 : nu s.data.toList b = (true, c)) (k3 : FiN s.data.toList b c) (k4 : tk s.data.toList barT c = (true, d)) (k6 : ro false s.data.toList 26 e1 0 = (true, e2, f2)) (k5 : ro true s.data.toList 26 d 0 = (true, e1, f1))  : Calls Tryz.prog 27 #[.pointer (some ⟨R, 0, none⟩), .pointer (some ⟨C, 0, none⟩)] W fun e w' => But [R, C] W w' ∧ e = .returned (.tuple #[]) ∧ Rdr w' R s e2 ∧ ZvA C W.heap.size s.data.toList w' := by
  have hCW : C < W.heap.size := (Array.getElem?_eq_some_iff.1 hC).1
  have hRW : R < W.heap.size := (Array.getElem?_eq_some_iff.1 h).1
  have K1 := Lib.hid k1
  have K2 := Lib.hid k2
  have K3 := Lib.hid k3
  have K4 := Lib.hid k4
  have K5 := Lib.hid k5
  have K6 := Lib.hid k6
  have l1 : b ≤ s.size := by have := tk_le k1 (Nat.zero_le _); simpa using this
  have l2 : c ≤ s.size := by have := nu_le k2 (by simpa using l1); simpa using this
  have l3 : d ≤ s.size := by have := tk_le k4 (by simpa using l2); simpa using this
  clear k1 k2 k3 k4 k5 k6
  unfold zpkT at K1
  unfold barT at K4
  go_enter Tryz.func27, Tryz.ntmps27
  have tok : True := trivial
  go_wp2_with (go_at_call 28; have _t := tok; clear tok; refine (take_ok (w0 := W) [122, 112, 107, 32] (by decide) (by omega) (Nat.zero_le _) h (But.refl _ _) K1.out).mono ?_; rintro e w1 ⟨rfl, hr1, hb1⟩; have hg1 := hg.keep hb1 (by simpa using hR))
  have tok : True := trivial
  go_wp2_with (go_at_call 29; have _t := tok; clear tok; refine (fi_ok hs l1 hR hr1 hg1 K2.out K3.out).mono ?_; rintro e w2 ⟨x, y, rfl, hxy, hr2, hb2⟩; have HXY := Lib.hid hxy; clear hxy; have bC := (hb1.trans hb2).heap hC (by simp; omega); have cC : w2.cell? ⟨C, 2, none⟩ = some (.complex .f64 0 0) := (by rw [cell_of_row w2 C 2 _ _ _ bC]; rfl); have fC : w2.frozen? ⟨C, 2, none⟩ = false := blk_free bC; have b2 : (w2.setCell ⟨C, 2, none⟩ (.complex .f64 x y)).heap[C]? = some (.cells #[.slice none 0 0, .slice none 0 0, .complex .f64 x y] 35 (0, 0)) := blk_set _ _ _ _ _ _ bC; have hr2s : Rdr (w2.setCell ⟨C, 2, none⟩ (.complex .f64 x y)) R s c := (Below.heap_setCell w2 ⟨C, 2, none⟩ (.complex .f64 x y) R hn).trans hr2; have hb2s : But [R, C] W (w2.setCell ⟨C, 2, none⟩ (.complex .f64 x y)) := ((hb1.trans hb2).weak (by simp; omega)).setCell _ _ (.inl (by simp)); have hg2 := hg.keep hb2s (by simp; omega))
  have tok : True := trivial
  go_wp2_with (go_at_call 28; have _t := tok; clear tok; refine (take_ok [32, 124] (by decide) (by omega) l2 hr2s (But.refl _ _) K4.out).mono ?_; rintro e w3 ⟨rfl, hr3, hb3⟩; have bC3 := hb3.heap b2 (by simp; omega); have hb3s : But [R, C] W w3 := hb2s.trans (hb3.weak (by simp; omega)); have hg3 := hg.keep hb3s (by simp; omega))
  have tok : True := trivial
  go_wp2_with (go_at_call 30; have _t := tok; clear tok; refine (rts_ok_true hs l3 hR hr3 hg3 K5.out).mono ?_; rintro e w4 ⟨zs, pz, nz, kz, rfl, hzz, hr4, hb4⟩; have HZ := Lib.hid hzz; clear hzz; have bC4 := hb4.heap bC3 (by simp; omega); have cC4 : w4.cell? ⟨C, 0, none⟩ = some (.slice none 0 0) := (by rw [cell_of_row w4 C 0 _ _ _ bC4]; rfl); have fC4 : w4.frozen? ⟨C, 0, none⟩ = false := blk_free bC4; have b4 : (w4.setCell ⟨C, 0, none⟩ (.slice pz nz kz)).heap[C]? = some (.cells #[.slice pz nz kz, .slice none 0 0, .complex .f64 x y] 35 (0, 0)) := blk_set _ _ _ _ _ _ bC4; have hr4s : Rdr (w4.setCell ⟨C, 0, none⟩ (.slice pz nz kz)) R s e1 := (Below.heap_setCell w4 ⟨C, 0, none⟩ (.slice pz nz kz) R hn).trans hr4; have hb4s : But [R, C] W (w4.setCell ⟨C, 0, none⟩ (.slice pz nz kz)) := (hb3s.trans (hb4.weak (by simp; omega))).setCell _ _ (.inl (by simp)); have hg4 := hg.keep hb4s (by simp; omega); have hs3 := hb3s.size; have l4 : e1 ≤ s.size := (by have := HZ.out.2.1.le (by simpa using l3); simpa using this))
  have tok : True := trivial
  go_wp2_with (go_at_call 30; have _t := tok; clear tok; refine (rts_ok_false hs l4 hR hr4s hg4 K6.out).mono ?_; rintro e w5 ⟨ps, pp, np, kp, rfl, hzz, hr5, hb5⟩; have HP := Lib.hid hzz; clear hzz; have bC5 := hb5.heap b4 (by simp; omega); have cC5 : w5.cell? ⟨C, 1, none⟩ = some (.slice none 0 0) := (by rw [cell_of_row w5 C 1 _ _ _ bC5]; rfl); have fC5 : w5.frozen? ⟨C, 1, none⟩ = false := blk_free bC5; have hs4 := hb4s.size)
  go_end0
  have b5 : (w5.setCell ⟨C, 1, none⟩ (.slice pp np kp)).heap[C]? = some (.cells #[.slice pz nz kz, .slice pp np kp, .complex .f64 x y] 35 (0, 0)) := blk_set _ _ _ _ _ _ bC5
  have hb5s : But [R, C] W (w5.setCell ⟨C, 1, none⟩ (.slice pp np kp)) := (hb4s.trans (hb5.weak (by simp; omega))).setCell _ _ (.inl (by simp))
  have hbz : But [R, C] w4 (w5.setCell ⟨C, 1, none⟩ (.slice pp np kp)) := (((But.refl _ w4).setCell _ _ (.inl (by simp))).trans (hb5.weak (by simp; omega))).setCell _ _ (.inl (by simp))
  have hz := (HZ.out.1.low hs3).keep hbz (fun g hg => by have := (HZ.out.1.low hs3).block g hg; simp; omega)
  have hp0 := HP.out.1.low hs4
  have hp := hp0.keep (((But.refl [C] w5)).setCell ⟨C, 1, none⟩ (.slice pp np kp) (.inl (by simp))) (fun g hg => by have := hp0.block g hg; simp; omega)
  exact ⟨hb5s, rfl, (Below.heap_setCell w5 ⟨C, 1, none⟩ (.slice pp np kp) R hn).trans hr5, x, y, pz, nz, kz, pp, np, kp, zs, ps, b5, hz, hp, zpT_of (g := (x, y)) ⟨HXY.out.1, HXY.out.2.1⟩ HXY.out.2.2.2 (tk_is _ _ _ _ K1.out) HXY.out.2.2.1 (tk_is _ _ _ _ K4.out) HZ.out.2.1 (by simpa using HP.out.2.1) (ro_whole _ _ _ _ _ _ K6.out) HZ.out.2.2.2 HP.out.2.2.2 HZ.out.2.2.1 HP.out.2.2.1⟩

end Go.Proofs.YtnghppgpdeghfaaGreatDoor
namespace Go.Proofs.YtnghppgpdeghfaaGreatDoor
open Go.RowKit Go.Proofs.YtnghppgpdeghfaaGreatDoor.Fl Go.Proofs.YtnghppgpdeghfaaGreatDoor.Pt Go.Proofs.YtnghppgpdeghfaaGreatDoor.Tx

theorem a2_1 (W : World) (a b : Obj) : ((W.alloc a).alloc b).heap[W.heap.size + 1]? = some b := by
  show ((W.heap.push a).push b)[_]? = _
  rw [push_at _ _ _ (by simp)]
set_option linter.unusedSimpArgs false in
set_option maxRecDepth 100000 in
set_option maxHeartbeats 2000000 in
theorem read_ok27 (C : Nat) (s : ByteArray) (W : World) (hs : s.size ≤ 65536) (hC : C < W.heap.size) (G : World → Prop) (hG : ∀ w w', But [W.heap.size, W.heap.size + 1] w w' → G w → G w') (c : Nat) (hcs : ¬ c < s.size) (hc : ∀ w, But [] W w → w.heap.size = W.heap.size + 3 → Rdr w (W.heap.size + 1 + 1) s 0 → Calls Tryz.prog 27 #[.pointer (some ⟨W.heap.size + 1 + 1, 0, none⟩), .pointer (some ⟨C, 0, none⟩)] w fun e w' => But [W.heap.size + 1 + 1, C] w w' ∧ e = .returned (.tuple #[]) ∧ Rdr w' (W.heap.size + 1 + 1) s c ∧ G w') :
    Calls Tryz.prog 20 #[.string s, .func (Fn.func 27) #[] #[.pointer (some ⟨C, 0, none⟩)]] W fun e w' => e = RdA 0 0 ∧ But [C] W w' ∧ G w' := by
  have hmf : ∀ (fn : Fn) (first cap : Array Value) (w : World), (Instr.makeFunc fn first cap).run Tryz.prog w = .ok (.func fn first cap) w := fun _ _ _ _ => rfl
  have t1 : decide ((s.size : Int) > 65536) = false := by simp; omega
  obtain ⟨U, hU⟩ : ∃ U, U = (((W.alloc (.cells #[.int .i64 0] 3)).alloc (.cells #[.int .i64 0] 23)).alloc (.cells #[.string s, .int .i64 0] 70)) := ⟨_, rfl⟩
  have u0 : But [] W U := hU ▸ (((But.refl [] W).alloc _).alloc _).alloc _
  have uS : U.heap.size = W.heap.size + 3 := by rw [hU]; simp
  have uA : U.heap[W.heap.size]? = some (.cells #[.int .i64 0] 3 (0, 0)) := by rw [hU]; exact at0 _ _ _ _
  have uE : U.heap[W.heap.size + 1]? = some (.cells #[.int .i64 0] 23 (0, 0)) := by rw [hU]; exact at1 _ _ _ _
  have uR : Rdr U (W.heap.size + 1 + 1) s 0 := by rw [hU]; exact at2 _ _ _ _
  have hcU := hc U u0 uS uR
  clear hc
  go_enter_defers Tryz.func20, Tryz.ntmps20
  go_wp2_with (first | (go_at_call 27; rw [← hU]; refine hcU.mono ?_; rintro e w1 ⟨hb, rfl, hr, hg1⟩) | (go_at_call 47; refine (end_ok _ c s _ hr hcs).mono ?_; rintro e w2 ⟨hb2, rfl⟩; have hb' : But [C, W.heap.size + 1 + 1] U w2 := (hb.weak (by simp; omega)).trans (hb2.weak (by simp)); have bA := hb'.heap uA (by simp; omega); have bE := hb'.heap uE (by simp; omega); have hG2 := hG w1 w2 (hb2.weak (by simp)) hg1; have ST := two_zero _ _ _ (by omega) bA bE; obtain ⟨zA, zE, fA, fE⟩ := two_cells _ _ _ (by omega) bA bE))
  refine leaves_cons (f := 46) (args := #[.pointer (some ⟨W.heap.size, 0, none⟩), .pointer (some ⟨W.heap.size + 1, 0, none⟩)]) (by simp) (by simp [go_sem]) ?_
  refine (catch_idle W.heap.size (W.heap.size + 1) _).mono ?_
  rintro e u' w3 ⟨rfl, rfl, h3⟩
  have d3 := h3.heap ST.1 (by simp)
  have d4 := h3.heap ST.2.1 (by simp)
  have c3 : w3.cell? ⟨W.heap.size, 0, none⟩ = some (.int .i64 0) := by rw [cell_of_row w3 _ 0 _ _ _ d3]; rfl
  have c4 : w3.cell? ⟨W.heap.size + 1, 0, none⟩ = some (.int .i64 0) := by rw [cell_of_row w3 _ 0 _ _ _ d4]; rfl
  have b3 := ST.2.2.trans (h3.weak (by simp))
  simp [Leaves, settle, results, Tryz.results20, go_sem, c3, c4]
  exact ⟨((u0.weak (qs' := [C]) (by simp)).then hb' (by simp; omega)).then b3 (by simp; omega), hG _ _ b3 hG2⟩

set_option linter.unusedSimpArgs false in
set_option maxRecDepth 100000 in
set_option maxHeartbeats 2000000 in
theorem Zpk_fine (s : ByteArray) (W : World) (hr : ∀ C w, But [] W w → C < w.heap.size → w.heap[C]? = some (.cells #[.slice none 0 0, .slice none 0 0, .complex .f64 0 0] 35 (0, 0)) → 15 ≤ C → Calls Tryz.prog 20 #[.string s, .func (Fn.func 27) #[] #[.pointer (some ⟨C, 0, none⟩)]] w fun e w' => e = RdA 0 0 ∧ But [C] w w' ∧ ZvA C (w.heap.size + 3) s.data.toList w') (hg : Gl W) :
    Calls Tryz.prog 12 #[.string s] W fun e w' => But [] W w' ∧ ∃ x y pz nz kz pp np kp zs ps, e = .returned (.tuple #[.agg #[.slice pz nz kz, .slice pp np kp, .complex .f64 x y], .int .i64 0, .int .i64 0]) ∧ OZ w' W.heap.size (.slice pz nz kz) zs ∧ OZ w' W.heap.size (.slice pp np kp) ps ∧ ZpT s.data.toList (x, y) zs ps := by
  have hmf : ∀ (fn : Fn) (first cap : Array Value) (w : World), (Instr.makeFunc fn first cap).run Tryz.prog w = .ok (.func fn first cap) w := fun _ _ _ _ => rfl
  have hsz := hg.size
  obtain ⟨U, hU⟩ : ∃ U, U = (W.alloc (.cells #[.slice none 0 0, .slice none 0 0, .complex .f64 0 0] 35)).alloc (.cells #[.slice none 0 0, .slice none 0 0, .complex .f64 0 0] 35) := ⟨_, rfl⟩
  have u0 : But [] W U := hU ▸ ((But.refl [] W).alloc _).alloc _
  have uS : U.heap.size = W.heap.size + 2 := by rw [hU]; simp
  have uR : U.heap[W.heap.size]? = some (.cells #[.slice none 0 0, .slice none 0 0, .complex .f64 0 0] 35 (0, 0)) := by rw [hU]; exact a2_0 _ _ _
  have uC : U.heap[W.heap.size + 1]? = some (.cells #[.slice none 0 0, .slice none 0 0, .complex .f64 0 0] 35 (0, 0)) := by rw [hU]; exact a2_1 _ _ _
  have hk := hr (W.heap.size + 1) U u0 (by omega) uC (by omega)
  clear hr
  go_enter Tryz.func12, Tryz.ntmps12
  go_wp2_with (go_at_call 20; rw [← hU]; refine hk.mono ?_; rintro e w1 ⟨rfl, hb, x, y, pz, nz, kz, pp, np, kp, zs, ps, b5, hz, hp, ht⟩; have zR := hb.heap uR (by simp); have z0 : w1.cell? ⟨W.heap.size, 0, none⟩ = some (.slice none 0 0) := (by rw [cell_of_row w1 _ 0 _ _ _ zR]; rfl); have z1 : w1.cell? ⟨W.heap.size, 1, none⟩ = some (.slice none 0 0) := (by rw [cell_of_row w1 _ 1 _ _ _ zR]; rfl); have z2 : w1.cell? ⟨W.heap.size, 2, none⟩ = some (.complex .f64 0 0) := (by rw [cell_of_row w1 _ 2 _ _ _ zR]; rfl); have c0 : w1.cell? ⟨W.heap.size + 1, 0, none⟩ = some (.slice pz nz kz) := (by rw [cell_of_row w1 _ 0 _ _ _ b5]; rfl); have c1 : w1.cell? ⟨W.heap.size + 1, 1, none⟩ = some (.slice pp np kp) := (by rw [cell_of_row w1 _ 1 _ _ _ b5]; rfl); have c2 : w1.cell? ⟨W.heap.size + 1, 2, none⟩ = some (.complex .f64 x y) := (by rw [cell_of_row w1 _ 2 _ _ _ b5]; rfl); have f0 : (w1).frozen? ⟨W.heap.size, 0, none⟩ = false := blk_free zR; have s0 := blk_set (w1) W.heap.size 0 _ 35 (.slice pz nz kz) zR; have f1 : ((w1).setCell ⟨W.heap.size, 0, none⟩ (.slice pz nz kz)).frozen? ⟨W.heap.size, 1, none⟩ = false := blk_free s0; have s1 := blk_set ((w1).setCell ⟨W.heap.size, 0, none⟩ (.slice pz nz kz)) W.heap.size 1 _ 35 (.slice pp np kp) s0; have f2 : (((w1).setCell ⟨W.heap.size, 0, none⟩ (.slice pz nz kz)).setCell ⟨W.heap.size, 1, none⟩ (.slice pp np kp)).frozen? ⟨W.heap.size, 2, none⟩ = false := blk_free s1; have s2 := blk_set (((w1).setCell ⟨W.heap.size, 0, none⟩ (.slice pz nz kz)).setCell ⟨W.heap.size, 1, none⟩ (.slice pp np kp)) W.heap.size 2 _ 35 (.complex .f64 x y) s1)
  refine bodyPost_ret (v := .tuple #[.agg #[.slice pz nz kz, .slice pp np kp, .complex .f64 x y], .int .i64 0, .int .i64 0]) ?_ rfl ?_
  · rw [results_cell_tmp2 (fn := Tryz.f12) rfl]
    simp only [List.getElem_toArray, Array.getD]
    simp [asAddr, Sem.run_pure, Result.andThen]
    rw [run_loadVar_row _ W.heap.size 35 35 _ _ _ s2 Tryz.underlying35 rfl (by kernel_rfl)]
    rfl
  · have hB1 := (((But.refl [W.heap.size] w1).setCell ⟨W.heap.size, 0, none⟩ (.slice pz nz kz) (.inl (by simp))).setCell ⟨W.heap.size, 1, none⟩ (.slice pp np kp) (.inl (by simp))).setCell ⟨W.heap.size, 2, none⟩ (.complex .f64 x y) (.inl (by simp))
    have hBW := u0.then ((((hb.weak (qs' := [W.heap.size, W.heap.size + 1]) (by simp; omega)).setCell ⟨W.heap.size, 0, none⟩ (.slice pz nz kz) (.inl (by simp))).setCell ⟨W.heap.size, 1, none⟩ (.slice pp np kp) (.inl (by simp))).setCell ⟨W.heap.size, 2, none⟩ (.complex .f64 x y) (.inl (by simp))) (by simp; omega)
    have hB := u0.size
    have hz' := hz.keep hB1 (fun g hg => by have := hz.block g hg; simp; omega)
    have hp' := hp.keep hB1 (fun g hg => by have := hp.block g hg; simp; omega)
    exact ⟨hBW, x, y, pz, nz, kz, pp, np, kp, zs, ps, rfl, hz'.low (by omega), hp'.low (by omega), ht⟩

set_option linter.unusedSimpArgs false in
set_option maxRecDepth 100000 in
set_option maxHeartbeats 2000000 in
theorem Zpk_faultV (s : ByteArray) (W : World) (b n : Nat) (hn : ((n : Int) != 0) = true) (hr : ∀ C w, But [] W w → C < w.heap.size → w.heap[C]? = some (.cells #[.slice none 0 0, .slice none 0 0, .complex .f64 0 0] 35 (0, 0)) → 15 ≤ C → Calls Tryz.prog 20 #[.string s, .func (Fn.func 27) #[] #[.pointer (some ⟨C, 0, none⟩)]] w fun e w' => e = RdA b n ∧ But [C] w w') (hg : Gl W) :
    Calls Tryz.prog 12 #[.string s] W fun e w' => e = .returned (.tuple #[.agg #[.slice none 0 0, .slice none 0 0, .complex .f64 0 0], .int .i64 (b : Int), .int .i64 (n : Int)]) ∧ But [] W w' := by
  have hmf : ∀ (fn : Fn) (first cap : Array Value) (w : World), (Instr.makeFunc fn first cap).run Tryz.prog w = .ok (.func fn first cap) w := fun _ _ _ _ => rfl
  have hsz := hg.size
  obtain ⟨U, hU⟩ : ∃ U, U = (W.alloc (.cells #[.slice none 0 0, .slice none 0 0, .complex .f64 0 0] 35)).alloc (.cells #[.slice none 0 0, .slice none 0 0, .complex .f64 0 0] 35) := ⟨_, rfl⟩
  have u0 : But [] W U := hU ▸ ((But.refl [] W).alloc _).alloc _
  have uS : U.heap.size = W.heap.size + 2 := by rw [hU]; simp
  have uR : U.heap[W.heap.size]? = some (.cells #[.slice none 0 0, .slice none 0 0, .complex .f64 0 0] 35 (0, 0)) := by rw [hU]; exact a2_0 _ _ _
  have uC : U.heap[W.heap.size + 1]? = some (.cells #[.slice none 0 0, .slice none 0 0, .complex .f64 0 0] 35 (0, 0)) := by rw [hU]; exact a2_1 _ _ _
  have hk := hr (W.heap.size + 1) U u0 (by omega) uC (by omega)
  clear hr
  go_enter Tryz.func12, Tryz.ntmps12
  go_wp2_with (go_at_call 20; rw [← hU]; refine hk.mono ?_; rintro e w1 ⟨rfl, hb⟩; have zR := hb.heap uR (by simp); have z0 : w1.cell? ⟨W.heap.size, 0, none⟩ = some (.slice none 0 0) := (by rw [cell_of_row w1 _ 0 _ _ _ zR]; rfl); have z1 : w1.cell? ⟨W.heap.size, 1, none⟩ = some (.slice none 0 0) := (by rw [cell_of_row w1 _ 1 _ _ _ zR]; rfl); have z2 : w1.cell? ⟨W.heap.size, 2, none⟩ = some (.complex .f64 0 0) := (by rw [cell_of_row w1 _ 2 _ _ _ zR]; rfl); have f0 : (w1).frozen? ⟨W.heap.size, 0, none⟩ = false := blk_free zR; have s0 := blk_set (w1) W.heap.size 0 _ 35 (.slice none 0 0) zR; have f1 : ((w1).setCell ⟨W.heap.size, 0, none⟩ (.slice none 0 0)).frozen? ⟨W.heap.size, 1, none⟩ = false := blk_free s0; have s1 := blk_set ((w1).setCell ⟨W.heap.size, 0, none⟩ (.slice none 0 0)) W.heap.size 1 _ 35 (.slice none 0 0) s0; have f2 : (((w1).setCell ⟨W.heap.size, 0, none⟩ (.slice none 0 0)).setCell ⟨W.heap.size, 1, none⟩ (.slice none 0 0)).frozen? ⟨W.heap.size, 2, none⟩ = false := blk_free s1; have s2 := blk_set (((w1).setCell ⟨W.heap.size, 0, none⟩ (.slice none 0 0)).setCell ⟨W.heap.size, 1, none⟩ (.slice none 0 0)) W.heap.size 2 _ 35 (.complex .f64 0 0) s1)
  refine bodyPost_ret (v := .tuple #[.agg #[.slice none 0 0, .slice none 0 0, .complex .f64 0 0], .int .i64 (b : Int), .int .i64 (n : Int)]) ?_ rfl ⟨rfl, ?_⟩
  · rw [results_cell_tmp2 (fn := Tryz.f12) rfl]
    simp only [List.getElem_toArray, Array.getD]
    simp [asAddr, Sem.run_pure, Result.andThen]
    rw [run_loadVar_row _ W.heap.size 35 35 _ _ _ s2 Tryz.underlying35 rfl (by kernel_rfl)]
    rfl
  · exact u0.then ((((hb.weak (qs' := [W.heap.size, W.heap.size + 1]) (by simp; omega)).setCell ⟨W.heap.size, 0, none⟩ (.slice none 0 0) (.inl (by simp))).setCell ⟨W.heap.size, 1, none⟩ (.slice none 0 0) (.inl (by simp))).setCell ⟨W.heap.size, 2, none⟩ (.complex .f64 0 0) (.inl (by simp))) (by simp; omega)
theorem err_ne {f : Nat} (h : f = 12 ∨ f = 2 ∨ f = 5) : ((f : Int) != 0) = true := by rcases h with rfl | rfl | rfl <;> rfl
theorem trip (x : Bool × Nat × Nat) : (∃ a b, x = (true, a, b)) ∨ ∃ a b, x = (false, a, b) := by
  obtain ⟨_ | _, a, b⟩ := x
  · exact .inr ⟨a, b, rfl⟩
  · exact .inl ⟨a, b, rfl⟩
theorem Zpk_nan (s : ByteArray) (W : World) (hs : s.size ≤ 65536) (b c : Nat) (k1 : tk s.data.toList zpkT 0 = (true, b)) (k2 : nu s.data.toList b = (true, c)) (k3 : ¬ FiN s.data.toList b c) (hg : Gl W) : Calls Tryz.prog 12 #[.string s] W fun e w' => e = ZpE b 5 ∧ But [] W w' :=
  Zpk_fault s W b 5 rfl (fun C w hb hC hC2 => read_no27 C s w hs hC b 5 fun w2 hb2 _ hr => zpk1_nan _ C s hs (by omega) w2 hr ((hg.keep hb (by simp)).keep hb2 (by simp)) b c k1 k2 k3) hg

/-- Every ReadZpk. -/
theorem ReadZpk_any (s : ByteArray) (W : World) (hg : Gl W) : Calls Tryz.prog 12 #[.string s] W fun e w' => (65536 < s.size ∧ e = ZpE 0 2 ∧ But [] W w') ∨ (s.size ≤ 65536 ∧ (∃ b f, zp s.data.toList = (false, b, f) ∧ e = ZpE b f ∧ But [] W w')) ∨ (s.size ≤ 65536 ∧ (∃ b f, zp s.data.toList = (true, b, f)) ∧ But [] W w' ∧ ∃ x y pz nz kz pp np kp zs ps, e = .returned (.tuple #[.agg #[.slice pz nz kz, .slice pp np kp, .complex .f64 x y], .int .i64 0, .int .i64 0]) ∧ OZ w' W.heap.size (.slice pz nz kz) zs ∧ OZ w' W.heap.size (.slice pp np kp) ps ∧ ZpT s.data.toList (x, y) zs ps) := by
  by_cases hs : 65536 < s.size
  · exact (Zpk_long s W hs hg).mono fun e w' h => .inl ⟨hs, h.1, h.2⟩
  have hs' : s.size ≤ 65536 := by omega
  have key : ∀ b f, zp s.data.toList = (false, b, f) → (Calls Tryz.prog 12 #[.string s] W fun e w' => e = ZpE b f ∧ But [] W w') → Calls Tryz.prog 12 #[.string s] W fun e w' => (65536 < s.size ∧ e = ZpE 0 2 ∧ But [] W w') ∨ (s.size ≤ 65536 ∧ (∃ b f, zp s.data.toList = (false, b, f) ∧ e = ZpE b f ∧ But [] W w')) ∨ (s.size ≤ 65536 ∧ (∃ b f, zp s.data.toList = (true, b, f)) ∧ But [] W w' ∧ ∃ x y pz nz kz pp np kp zs ps, e = .returned (.tuple #[.agg #[.slice pz nz kz, .slice pp np kp, .complex .f64 x y], .int .i64 0, .int .i64 0]) ∧ OZ w' W.heap.size (.slice pz nz kz) zs ∧ OZ w' W.heap.size (.slice pp np kp) ps ∧ ZpT s.data.toList (x, y) zs ps) :=
    fun b f h hc => hc.mono fun e w' h2 => .inr (.inl ⟨hs', b, f, h, h2.1, h2.2⟩)
  have gl : ∀ (w w2 : World), But [] W w → But [] w w2 → Gl w2 := fun w w2 h1 h2 => (hg.keep h1 (by simp)).keep h2 (by simp)
  rcases pair (x := tk s.data.toList zpkT 0) with ⟨b, k1⟩ | ⟨b, k1⟩
  · rcases pair (x := nu s.data.toList b) with ⟨c, k2⟩ | ⟨c, k2⟩
    · by_cases k3 : FiN s.data.toList b c
      · rcases pair (x := tk s.data.toList barT c) with ⟨d, k4⟩ | ⟨d, k4⟩
        · rcases trip (ro true s.data.toList 26 d 0) with ⟨e1, f1, k5⟩ | ⟨e1, f1, k5⟩
          · rcases trip (ro false s.data.toList 26 e1 0) with ⟨e2, f2, k6⟩ | ⟨e2, f2, k6⟩
            · refine (Zpk_fine s W (fun C w hb hC hv hC2 => ?_) hg).mono fun e w' h => .inr (.inr ⟨hs', ⟨e2, f2, (zp_6 k1 k2 k3 k4 k5).trans k6⟩, h⟩)
              refine read_ok27 C s w hs' hC (ZvA C (w.heap.size + 3) s.data.toList) (fun w2 w3 hb2 h => h.keep hb2 (by simp; omega) (by intro q hq; simp at hq; omega)) e2 (by have := ro_whole _ _ _ _ _ _ k6; simpa using this) fun w2 hb2 hsz hr => ?_
              have := zpk1_ok _ C s hs' (by omega) hC2 (by omega) w2 hr (gl w w2 hb hb2) (hb2.heap hv (by simp)) b c d e1 f1 e2 f2 k1 k2 k3 k4 k6 k5
              rwa [hsz] at this
            · exact key e2 f2 ((zp_6 k1 k2 k3 k4 k5).trans k6) (Zpk_faultV s W e2 f2 (err_ne (ro_err _ _ _ _ _ _ _ (by omega) (by omega) k6)) (fun C w hb hC hv hC2 => read_no27 C s w hs' hC e2 f2 fun w2 hb2 _ hr => zpk1_no5 _ C s hs' (by omega) hC2 (by omega) w2 hr (gl w w2 hb hb2) (hb2.heap hv (by simp)) b c d e1 f1 k1 k2 k3 k4 k5 e2 f2 k6) hg)
          · exact key e1 f1 (zp_5 k1 k2 k3 k4 k5) (Zpk_faultV s W e1 f1 (err_ne (ro_err _ _ _ _ _ _ _ (by omega) (by omega) k5)) (fun C w hb hC hv hC2 => read_no27 C s w hs' hC e1 f1 fun w2 hb2 _ hr => zpk1_no4 _ C s hs' (by omega) hC2 (by omega) w2 hr (gl w w2 hb hb2) (hb2.heap hv (by simp)) b c d e1 f1 k1 k2 k3 k4 k5) hg)
        · exact key d 12 (zp_4 k1 k2 k3 k4) (Zpk_faultV s W d 12 rfl (fun C w hb hC hv hC2 => read_no27 C s w hs' hC d 12 fun w2 hb2 _ hr => zpk1_no3 _ C s hs' (by omega) hC2 (by omega) w2 hr (gl w w2 hb hb2) (hb2.heap hv (by simp)) b c d k1 k2 k3 k4) hg)
      · exact key b 5 (zp_3 k1 k2 k3) (Zpk_nan s W hs' b c k1 k2 k3 hg)
    · exact key c 12 (zp_2 k1 k2) (Zpk_bad2 s W hs' b c k1 k2 hg)
  · exact key b 12 (zp_1 k1) (Zpk_bad1 s W hs' b k1 hg)
end Go.Proofs.YtnghppgpdeghfaaGreatDoor
