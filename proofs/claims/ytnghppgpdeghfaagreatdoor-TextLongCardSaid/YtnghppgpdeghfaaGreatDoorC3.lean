/- quaverlaw27.TextLong: its walk. -/
import Derived.Test.YtnghppgpdeghfaaGreatDoorC2
import Derived.Test.YtnghppgpdeghfaaGreatDoorB18
import Derived.Lib.SlBytesConst
namespace Go.Proofs.YtnghppgpdeghfaaGreatDoor
open Go.RowKit Go.Proofs.YtnghppgpdeghfaaGreatDoor.Fl Go.Proofs.YtnghppgpdeghfaaGreatDoor.Pt Go.Proofs.YtnghppgpdeghfaaGreatDoor.Tx

/-- A slice's length. -/
def slen : Value → Nat
  | .slice _ l _ => l
  | _ => 0
/-- The bytes of TextLong's row when k ones have been appended. -/
def tlB (k : Nat) : List Nat := [40, 48, 120, 49, 112] ++ List.replicate k 49
theorem tlB_len (k : Nat) : (tlB k).length = k + 5 := by unfold tlB; simp
theorem tlB_next (k : Nat) : tlB k ++ [49] = tlB (k + 1) := by unfold tlB; rw [List.append_assoc, ← List.replicate_succ']
def tlC : Array Value := #[.int .u8 40, .int .u8 48, .int .u8 120, .int .u8 49, .int .u8 112]
theorem tlC_cell (w : World) (j b : Nat) (h : (tlB 0)[j]? = some b) : (w.alloc (.cells tlC 5 (5, 6))).cell? ⟨w.heap.size, j, none⟩ = some (.int .u8 (b : Int)) := by
  rw [World.cell?_alloc_mark]
  have hj := (List.getElem?_eq_some_iff.1 h).1
  rw [tlB_len] at hj
  have : j = 0 ∨ j = 1 ∨ j = 2 ∨ j = 3 ∨ j = 4 := by omega
  rcases this with rfl | rfl | rfl | rfl | rfl <;> (simp [tlB] at h; subst h; rfl)
theorem addr_add (g m j : Nat) : (⟨g, m, none⟩ : Addr).add j = ⟨g, m + j, none⟩ := by unfold Addr.add; split <;> simp_all
/-- The bytes of TextLong's text. -/
def tlL (s : ByteArray) (m k : Nat) : List Nat := ([] ++ bts (s.extract 0 m)) ++ (tlB k).drop m
/-- What the four readers answer on a text. -/
def TLok (n : Nat) (t : ByteArray) : Prop := ∃ b bz bf, ((decide (65536 < (t.size : Int)) = true ∧ n = 2 ∧ b = 0 ∧ bz = 0 ∧ bf = 0) ∨ (decide (65536 < (t.size : Int)) = false ∧ n = 12)) ∧
  (∀ w, Gl w → Calls Tryz.prog 7 #[.string t] w fun e w' => e = RdE 0 0 b n ∧ But [] w w') ∧ (∀ w, Calls Tryz.prog 8 #[.string t] w fun e w' => e = RdE 0 0 b n ∧ But [] w w') ∧
  (∀ w, Gl w → Calls Tryz.prog 12 #[.string t] w fun e w' => e = ZpE bz n ∧ But [] w w') ∧ (∀ w, Gl w → Calls Tryz.prog 13 #[.string t] w fun e w' => e = FlE bf n ∧ But [] w w')
theorem tlL_lt (s : ByteArray) (m k : Nat) : ∀ b ∈ tlL s m k, b < 256 := by
  intro b hb
  unfold tlL at hb
  rw [List.nil_append] at hb
  rcases List.mem_append.1 hb with h | h
  · unfold bts at h
    obtain ⟨c, _, rfl⟩ := List.mem_map.1 h
    exact c.toNat_lt
  · have h := List.mem_of_mem_drop h
    unfold tlB at h
    rcases List.mem_append.1 h with h | h
    · simp at h; omega
    · rw [(List.mem_replicate.1 h).2]; decide
set_option linter.unusedSimpArgs false in
set_option maxRecDepth 100000 in
set_option maxHeartbeats 4000000 in
theorem textLong_walk (s : ByteArray) (n d : Nat) (hd : d = n % 3) (_hn : n < 256) (hok : ∀ m k, m ≤ 5 → m ≤ s.size → k + 5 = 65536 + d → (m = 5 ∨ m = s.size) → ∃ c, TLok c ⟨((tlL s m k).map UInt8.ofNat).toArray⟩) (W : World) (hg : Gl W) : Calls Tryz.prog 4 #[.string s, .int .u8 (n : Int)] W fun e w' => e = .returned (.bool true) ∧ But [] W w' := by
  have hd3 : d < 3 := by omega
  have m1 : (n : Int) % 3 = (d : Int) := by omega
  have hcv := fun w => Lib.run_convert_bytes_const (P := Tryz.prog) w 32 5 tlC 5 5 Tryz.underlying32 Tryz.underlying5
  unfold tlC at hcv
  have HOK := Lib.hid hok
  clear hd hok
  go_enter Tryz.func4, Tryz.ntmps4
  go_wp2_with (go_at_call 9; refine (awake_any _ hg).mono ?_; rintro e w1 ⟨rfl, hb1⟩; have hg1 := hg.keep hb1 (by simp))
  have hB := hb1.size
  obtain ⟨w2, hw2⟩ : ∃ x, x = w1.alloc (.cells #[.int .u8 40, .int .u8 48, .int .u8 120, .int .u8 49, .int .u8 112] 5 (5, 6)) := ⟨_, rfl⟩
  have b2 : But [] W w2 := hw2 ▸ hb1.alloc _
  have ob2 : ∀ j b : Nat, (tlB 0)[j]? = some b → w2.cell? ⟨w1.heap.size, j, none⟩ = some (.int .u8 (b : Int)) := fun j b h => hw2 ▸ tlC_cell w1 j b h
  obtain ⟨G, hG⟩ : ∃ G, G = w1.heap.size := ⟨_, rfl⟩
  rw [← hG] at ob2 ⊢
  rw [← hw2]
  clear hw2 hG hcv
  go_loopw [5] (fun v wr => ∃ k : Nat, k + 5 ≤ 65536 + d ∧ But [] W wr ∧ ((k = 0 ∧ v = .slice (some ⟨G, 0, none⟩) 5 5 ∧ ∀ j b : Nat, (tlB 0)[j]? = some b → wr.cell? ⟨G, j, none⟩ = some (.int .u8 (b : Int))) ∨ OB wr W.heap.size v (tlB k))) (fun v _ => 65536 + d - slen v)
  case atStart => exact ⟨0, by omega, b2, .inl ⟨rfl, rfl, ob2⟩⟩
  case round =>
    obtain ⟨k, hk, hb, ⟨rfl, rfl, hcell⟩ | hob⟩ := hrel
    · have hc1 : decide ((5 : Int) < 65536 + (d : Int)) = true := decide_eq_true (by omega)
      have hws := hb.size
      have hcell' : ∀ j b : Nat, (tlB 0)[j]? = some b → (wr.alloc (.cells #[.int .u8 49] 5)).cell? ⟨G, j, none⟩ = some (.int .u8 (b : Int)) := fun j b h => ((But.refl [] wr).alloc _).cell (hcell j b h) (by simp)
      go_wp2_with (at_builtin; refine wpList_append_grown rfl _ _ rfl W.heap.size G 5 (tlB 0) rfl hcell' ⟨wr.heap.size, 0, none⟩ 1 1 [49] rfl rfl (one_byteN wr _ _ rfl) (by rw [tlB_len]; omega) (by rw [tlB_len]; omega) (by simp; omega) ?_; intro v' w' hob' hgr)
      go_roundw
      case rel => exact ⟨1, by omega, (hb.alloc _).grown hgr (fun g' hg' => by cases hg'), .inr (tlB_next 0 ▸ hob')⟩
      case measure =>
        rcases hob'.form with ⟨_, h⟩ | ⟨g', cap', cur', rfl, _⟩
        · exact absurd (congrArg List.length h) (by simp)
        · simp only [slen, List.length_append, tlB_len, List.length_singleton]; omega
    rcases hob.form with ⟨_, h⟩ | ⟨g, cap, cur, rfl, hgB, hgc, hcap, hcell⟩
    · exact absurd (congrArg List.length h) (by rw [tlB_len]; simp)
    rw [tlB_len] at hcap hob ⊢
    by_cases hlt : k + 5 < 65536 + d
    · have hc1 : decide ((k : Int) + 5 < 65536 + (d : Int)) = true := decide_eq_true (by omega)
      have hws := hb.size
      go_wp2_with (at_builtin; refine wpList_append_ob rfl _ _ rfl W.heap.size (.slice (some ⟨g, 0, none⟩) (k + 5) cap) (tlB k) rfl (hob.alloc _) ⟨wr.heap.size, 0, none⟩ 1 1 [49] rfl rfl (one_byteN wr _ _ rfl) (by rw [tlB_len]; omega) (by simp; omega) ?_; intro v' w' hob' hgr hnn hown)
      go_roundw
      case rel => exact ⟨k + 1, by omega, (hb.alloc _).grown hgr (fun g' hg' => by cases hg'; exact .inr hgB), .inr (tlB_next k ▸ hob')⟩
      case measure =>
        rcases hob'.form with ⟨_, h⟩ | ⟨g', cap', cur', rfl, _⟩
        · exact absurd (congrArg List.length h) (by simp)
        · simp only [slen, List.length_append, tlB_len, List.length_singleton]; omega
    · have hc1 : decide ((k : Int) + 5 < 65536 + (d : Int)) = false := decide_eq_false (by omega)
      have hkk : k + 5 = 65536 + d := by omega
      obtain ⟨m, hm, hm1, hm2⟩ : ∃ m : Nat, min (s.size : Int) 5 = (m : Int) ∧ m ≤ s.size ∧ m ≤ 5 := ⟨min s.size 5, by omega, by omega, by omega⟩
      have hm5 : m = 5 ∨ m = s.size := by omega
      have c1 : (m : Int) ≤ 65536 + (d : Int) := by omega
      have c2 : ¬ cap = m := by omega
      have hglt : g < wr.heap.size := (Array.getElem?_eq_some_iff.1 hgc).1
      have hws := hb.size
      have obX : OB (wr.alloc (.cells #[] 5)).drew W.heap.size (.slice (some ⟨wr.heap.size, 0, none⟩) 0 0) [] := World.ownsRow.drew (World.ownsRow_lit wr #[] 0 hws (by decide) rfl)
      have hcX : ∀ j b : Nat, (tlB k)[j]? = some b → (wr.alloc (.cells #[] 5)).drew.cell? ⟨g, j, none⟩ = some (.int .u8 (b : Int)) := fun j b h => (((But.refl [] wr).alloc _).drew).cell (hcell j b h) (by simp)
      go_wp2_with fail
      refine wp_region_noPanic ?_
      refine wp_region_held_drew (S := fun x => But [] W x) (by kernel_rfl) ?_ (fun hHeld => ?_)
      · (try dsimp only); exact hb.drew
      (refine wpAnyH_take (i := 1) (oi := _) (v := _) rfl (by decide +kernel) (by decide +kernel) (by decide +kernel) (fun _ _ _ h => h) (Or.inl ⟨by rfl, by (intro w hSw; (try dsimp only at hSw); go_simp; try with_reducible rfl)⟩) (by assumption) ?_; (try simp only [Act.put, List.setIfInBounds_toArray, List.set_cons_zero, List.set_cons_succ, List.getElem_toArray, List.getElem_cons_succ, List.getElem_cons_zero]))
      (refine wpAnyH_take (i := 2) (oi := _) (v := _) rfl (by decide +kernel) (by decide +kernel) (by decide +kernel) (fun _ _ _ h => h) (Or.inl ⟨by rfl, by (intro w hSw; (try dsimp only at hSw); go_simp; try with_reducible rfl)⟩) (by assumption) ?_; (try simp only [Act.put, List.setIfInBounds_toArray, List.set_cons_zero, List.set_cons_succ, List.getElem_toArray, List.getElem_cons_succ, List.getElem_cons_zero]))
      (refine wpAnyH_take (i := 3) (oi := _) (v := _) rfl (by decide +kernel) (by decide +kernel) (by decide +kernel) (fun _ _ _ h => h) (Or.inl ⟨by rfl, by (intro w hSw; (try dsimp only at hSw); go_simp; try with_reducible rfl)⟩) (by assumption) ?_; (try simp only [Act.put, List.setIfInBounds_toArray, List.set_cons_zero, List.set_cons_succ, List.getElem_toArray, List.getElem_cons_succ, List.getElem_cons_zero]))
      (refine wpAnyH_take (i := 4) (oi := _) (v := _) rfl (by decide +kernel) (by decide +kernel) (by decide +kernel) (fun _ _ _ h => h) (Or.inl ⟨by rfl, by (intro w hSw; (try dsimp only at hSw); go_simp; try with_reducible rfl)⟩) (by assumption) ?_; (try simp only [Act.put, List.setIfInBounds_toArray, List.set_cons_zero, List.set_cons_succ, List.getElem_toArray, List.getElem_cons_succ, List.getElem_cons_zero]))
      (refine wpAnyH_take (i := 5) (oi := _) (v := _) rfl (by decide +kernel) (by decide +kernel) (by decide +kernel) (fun _ _ _ h => h) (Or.inl ⟨by rfl, by (intro w hSw; (try dsimp only at hSw); go_simp; try with_reducible rfl)⟩) (by assumption) ?_; (try simp only [Act.put, List.setIfInBounds_toArray, List.set_cons_zero, List.set_cons_succ, List.getElem_toArray, List.getElem_cons_succ, List.getElem_cons_zero]))
      (refine wpAnyH_take (i := 7) (oi := _) (v := _) rfl (by decide +kernel) (by decide +kernel) (by decide +kernel) (fun _ _ _ h => h) (Or.inl ⟨by rfl, by (intro w hSw; (try dsimp only at hSw); go_simp; try with_reducible rfl)⟩) (by assumption) ?_; (try simp only [Act.put, List.setIfInBounds_toArray, List.set_cons_zero, List.set_cons_succ, List.getElem_toArray, List.getElem_cons_succ, List.getElem_cons_zero]))
      (refine wpAnyH_take (i := 8) (oi := _) (v := _) rfl (by decide +kernel) (by decide +kernel) (by decide +kernel) (fun _ _ _ h => h) (Or.inl ⟨by rfl, by (intro w hSw; (try dsimp only at hSw); go_simp; try with_reducible rfl)⟩) (by assumption) ?_; (try simp only [Act.put, List.setIfInBounds_toArray, List.set_cons_zero, List.set_cons_succ, List.getElem_toArray, List.getElem_cons_succ, List.getElem_cons_zero]))
      (refine wpAnyH_take (i := 9) (oi := _) (v := _) rfl (by decide +kernel) (by decide +kernel) (by decide +kernel) (fun _ _ _ h => h) (Or.inl ⟨by rfl, by (intro w hSw; (try dsimp only at hSw); go_simp; try with_reducible rfl)⟩) (by assumption) ?_; (try simp only [Act.put, List.setIfInBounds_toArray, List.set_cons_zero, List.set_cons_succ, List.getElem_toArray, List.getElem_cons_succ, List.getElem_cons_zero]))
      (refine wpAnyH_take (i := 10) (oi := _) (v := _) rfl (by decide +kernel) (by decide +kernel) (by decide +kernel) (fun _ _ _ h => h) (Or.inl ⟨by rfl, by (intro w hSw; (try dsimp only at hSw); go_simp; try with_reducible rfl)⟩) (by assumption) ?_; (try simp only [Act.put, List.setIfInBounds_toArray, List.set_cons_zero, List.set_cons_succ, List.getElem_toArray, List.getElem_cons_succ, List.getElem_cons_zero]))
      (refine wpAnyH_take (i := 11) (oi := _) (v := _) rfl (by decide +kernel) (by decide +kernel) (by decide +kernel) (fun _ _ _ h => h) (Or.inl ⟨by rfl, by (intro w hSw; (try dsimp only at hSw); go_simp; try with_reducible rfl)⟩) (by assumption) ?_; (try simp only [Act.put, List.setIfInBounds_toArray, List.set_cons_zero, List.set_cons_succ, List.getElem_toArray, List.getElem_cons_succ, List.getElem_cons_zero]))
      refine wpAnyH_ready (rs := [0]) (by decide +kernel) (by simp) ?_
      refine AllReadyH.cons (o := _) rfl (fun K hK => ?_) AllReadyH.nil
      go_simp
      refine hK.out _ _ (by (try dsimp only); exact hHeld.alloc _) (fun hNew => ?_); clear hK K; clear hHeld; have hHeld := hNew; clear hNew
      (try simp only [Act.put, List.setIfInBounds_toArray, List.set_cons_zero, List.set_cons_succ, List.getElem_toArray, List.getElem_cons_succ, List.getElem_cons_zero])
      refine wpAnyH_ready (rs := [6]) (by decide +kernel) (by simp) ?_
      refine AllReadyH.cons (o := _) rfl (fun K hK => ?_) AllReadyH.nil
      refine step_append_str rfl _ _ rfl W.heap.size (.slice (some ⟨wr.heap.size, 0, none⟩) 0 0) [] rfl obX (s.extract 0 m) rfl (by simp; omega) (by simp; omega) ?_; intro v1 y1 ob1 gr1; have by1 : But [] W y1 := hHeld.grown gr1 (fun g' hg' => by cases hg'; exact .inr hws); have hc6 : ∀ j b : Nat, (tlB k)[j]? = some b → y1.cell? ⟨g, j, none⟩ = some (.int .u8 (b : Int)) := (fun j b h => gr1.cell (hcX j b h) (by simp [Value.ownBlock]; omega))
      refine hK.out _ _ (by (try dsimp only); exact by1) (fun hNew => ?_); clear hK K; clear hHeld; have hHeld := hNew; clear hNew
      (try simp only [Act.put, List.setIfInBounds_toArray, List.set_cons_zero, List.set_cons_succ, List.getElem_toArray, List.getElem_cons_succ, List.getElem_cons_zero])
      refine wpAnyH_ready (rs := [12]) (by decide +kernel) (by simp) ?_
      refine AllReadyH.cons (o := _) rfl (fun K hK => ?_) AllReadyH.nil
      refine step_append_ob rfl _ _ rfl W.heap.size v1 ([] ++ bts (s.extract 0 m)) rfl ob1 ⟨g, m, none⟩ (65536 + d - m) (cap - m) ((tlB k).drop m) rfl (by rw [List.length_drop, tlB_len]; omega) (fun j b h => (by rw [List.getElem?_drop] at h; rw [addr_add]; exact hc6 (m + j) b h)) (by simp [bts_len]; omega) by1.size ?_; intro v2 y2 ob2 gr2; have by2 : But [] W y2 := by1.grown gr2 (fun g' hg' => .inr (ob1.block g' hg'))
      refine hK.out _ _ (by (try dsimp only); exact by2) (fun hNew => ?_); clear hK K; clear hHeld; have hHeld := hNew; clear hNew
      (try simp only [Act.put, List.setIfInBounds_toArray, List.set_cons_zero, List.set_cons_succ, List.getElem_toArray, List.getElem_cons_succ, List.getElem_cons_zero])
      (refine wpAnyH_take (i := 13) (oi := _) (v := _) rfl (by decide +kernel) (by decide +kernel) (by decide +kernel) (fun _ _ _ h => h) (Or.inl ⟨by rfl, by (intro w hSw; (try dsimp only at hSw); go_simp; try with_reducible rfl)⟩) (by assumption) ?_; (try simp only [Act.put, List.setIfInBounds_toArray, List.set_cons_zero, List.set_cons_succ, List.getElem_toArray, List.getElem_cons_succ, List.getElem_cons_zero]))
      refine wpAnyH_done (by decide +kernel) ?_ _
      refine NoPanic.normal ?_; (try simp only [Exit.then])
      have hne : tlL s m k ≠ [] := by
        intro h
        have := congrArg List.length h
        unfold tlL at this
        simp [tlB_len] at this
        omega
      have hcs := ob_string (B := W.heap.size) (v := v2) (L := tlL s m k) ob2 hne (tlL_lt s m k)
      obtain ⟨c, b, bz, bf, hcase, kR, kD, kZ, kF⟩ := HOK.out m k hm2 hm1 hkk hm5
      obtain ⟨t, ht⟩ : ∃ t : ByteArray, t = ⟨((tlL s m k).map UInt8.ofNat).toArray⟩ := ⟨_, rfl⟩
      rw [← ht] at hcs hcase kR kD kZ kF
      have gy : Gl y2 := hg.keep by2 (by simp)
      clear ht hne HOK ob1 gr1 by1 hc6 gr2 hcX obX hcell hgc hob c1 c2 hm hHeld
      have KR := Lib.hid kR
      have KD := Lib.hid kD
      have KZ := Lib.hid kZ
      have KF := Lib.hid kF
      clear kR kD kZ kF
      rcases hcase with ⟨t9, rfl, rfl, rfl, rfl⟩ | ⟨t9, rfl⟩
      · have tok : True := trivial
        go_wp2_with (go_at_call 7; have _t := tok; clear tok; refine (KR.out _ gy).mono ?_; rintro e z1 ⟨rfl, hz1⟩; have gz1 := gy.keep hz1 (by simp))
        have tok : True := trivial
        go_wp2_with (go_at_call 8; have _t := tok; clear tok; refine (KD.out _).mono ?_; rintro e z2 ⟨rfl, hz2⟩; have gz2 := gz1.keep hz2 (by simp))
        have tok : True := trivial
        go_wp2_with (go_at_call 10; have _t := tok; clear tok; refine (same_c 0 0 0 0 (by decide) (by decide) (by decide) (by decide) (by decide) (by decide) _).mono ?_; rintro e z3 ⟨rfl, hz3⟩; rw [hz3]; clear hz3 z3)
        have tok : True := trivial
        go_wp2_with (go_at_call 12; have _t := tok; clear tok; refine (KZ.out _ gz2).mono ?_; rintro e z4 ⟨rfl, hz4⟩; have gz4 := gz2.keep hz4 (by simp); have gz5 := gz4.keep ((But.refl [] z4).alloc (.cells #[.slice none 0 0, .slice none 0 0, .complex .f64 0 0] 35)) (by simp))
        have tok : True := trivial
        go_wp2_with (go_at_call 13; have _t := tok; clear tok; refine (KF.out _ gz5).mono ?_; rintro e z6 ⟨rfl, hz6⟩)
        go_ret
        exact ⟨rfl, (((((by2.trans hz1).trans hz2).trans hz4).alloc _).trans hz6).alloc _⟩
      · have tok : True := trivial
        go_wp2_with (go_at_call 7; have _t := tok; clear tok; refine (KR.out _ gy).mono ?_; rintro e z1 ⟨rfl, hz1⟩; have gz1 := gy.keep hz1 (by simp))
        have tok : True := trivial
        go_wp2_with (go_at_call 8; have _t := tok; clear tok; refine (KD.out _).mono ?_; rintro e z2 ⟨rfl, hz2⟩; have gz2 := gz1.keep hz2 (by simp))
        have tok : True := trivial
        go_wp2_with (go_at_call 10; have _t := tok; clear tok; refine (same_c 0 0 0 0 (by decide) (by decide) (by decide) (by decide) (by decide) (by decide) _).mono ?_; rintro e z3 ⟨rfl, hz3⟩; rw [hz3]; clear hz3 z3)
        have tok : True := trivial
        go_wp2_with (go_at_call 12; have _t := tok; clear tok; refine (KZ.out _ gz2).mono ?_; rintro e z4 ⟨rfl, hz4⟩; have gz4 := gz2.keep hz4 (by simp); have gz5 := gz4.keep ((But.refl [] z4).alloc (.cells #[.slice none 0 0, .slice none 0 0, .complex .f64 0 0] 35)) (by simp))
        have tok : True := trivial
        go_wp2_with (go_at_call 13; have _t := tok; clear tok; refine (KF.out _ gz5).mono ?_; rintro e z6 ⟨rfl, hz6⟩)
        go_ret
        exact ⟨rfl, (((((by2.trans hz1).trans hz2).trans hz4).alloc _).trans hz6).alloc _⟩
end Go.Proofs.YtnghppgpdeghfaaGreatDoor
