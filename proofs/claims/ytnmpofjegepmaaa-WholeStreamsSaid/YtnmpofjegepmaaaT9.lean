/- stream.Load. -/
import Derived.Test.YtnmpofjegepmaaaT8
namespace Go.Proofs.Ytnmpofjegepmaaa
open Go.RowKit Go.Proofs.Ytnmpofjegepmaaa.Fl Go.Proofs.Ytnmpofjegepmaaa.Pt

theorem RD.keep {w w' : World} {r P : Nat} {L : List Nat} {qs : List Nat} (h : RD w r P L) (k : But qs w w') (hr : r ∉ qs) (hP : P ∉ qs) : RD w' r P L := by
  obtain ⟨h1, o, cap, h2, h3, h4⟩ := h
  exact ⟨h1, o, cap, k.heap h2 hr, h3, fun j x hj => k.cell (h4 j x hj) (by simpa using hP)⟩
theorem five_rct (W : World) (t : Nat) (s0 s1 s2 s3 s4 : C) (xs : Nat → C) (h0 : wf s0) (h1 : wf s1) (h2 : wf s2) (h3 : wf s3) (h4 : wf s4) (e0 : ccn s0 = xs 0) (e1 : ccn s1 = xs 1) (e2 : ccn s2 = xs 2) (e3 : ccn s3 = xs 3) (e4 : ccn s4 = xs 4) : RC (W.alloc (.cells #[.complex .f64 s0.1 s0.2, .complex .f64 s1.1 s1.2, .complex .f64 s2.1 s2.2, .complex .f64 s3.1 s3.2, .complex .f64 s4.1 s4.2] t)) W.heap.size 0 5 xs := by
  intro j hj
  have : j = 0 ∨ j = 1 ∨ j = 2 ∨ j = 3 ∨ j = 4 := by omega
  rcases this with rfl | rfl | rfl | rfl | rfl
  · exact ⟨s0, by simp [go_sem, V], h0, e0⟩
  · exact ⟨s1, by simp [go_sem, V], h1, e1⟩
  · exact ⟨s2, by simp [go_sem, V], h2, e2⟩
  · exact ⟨s3, by simp [go_sem, V], h3, e3⟩
  · exact ⟨s4, by simp [go_sem, V], h4, e4⟩
theorem or_slice {w : World} {b t s k : Nat} {v : Value} {xs : Nat → C} (h : OR w b t s v k xs) (hk : 0 < k) : ∃ g c, v = .slice (some ⟨g, 0, none⟩) k c := by
  rcases h.form with ⟨_, h0⟩ | ⟨g, c, h0, _⟩
  · omega
  · exact ⟨g, c, h0⟩
theorem cat_self (k : Nat) (xs : Nat → C) (j : Nat) : cat k xs (fun i => xs (k + i)) j = xs j := by
  unfold cat
  split
  · rfl
  · show xs (k + (j - k)) = xs j
    congr 1; omega
/-- m sections' bytes from the k-th on, and m states'. -/
def secf (Sc : Nat → C) : Nat → Nat → List Nat
  | _, 0 => []
  | k, m + 1 => pbs (fun i => Sc (k * 5 + i)) 5 ++ secf Sc (k + 1) m
def staf (St : Nat → C) : Nat → Nat → List Nat
  | _, 0 => []
  | k, m + 1 => pbs (fun i => St (k * 2 + i)) 2 ++ staf St (k + 1) m
theorem secb_secf (Sc : Nat → C) : ∀ m k, secb Sc (k + m) = secb Sc k ++ secf Sc k m
  | 0, k => by simp [secf]
  | m + 1, k => by
    rw [show k + (m + 1) = (k + 1) + m by omega, secb_secf Sc m (k + 1), secb, secf, List.append_assoc]
theorem stab_staf (St : Nat → C) : ∀ m k, stab St (k + m) = stab St k ++ staf St k m
  | 0, k => by simp [staf]
  | m + 1, k => by
    rw [show k + (m + 1) = (k + 1) + m by omega, stab_staf St m (k + 1), stab, staf, List.append_assoc]
theorem secf_len (Sc : Nat → C) (m k : Nat) : (secf Sc k m).length = m * 80 := by
  induction m generalizing k with
  | zero => rfl
  | succ m ih => rw [secf, List.length_append, ih, pbs_len]; omega
theorem staf_len (St : Nat → C) (m k : Nat) : (staf St k m).length = m * 32 := by
  induction m generalizing k with
  | zero => rfl
  | succ m ih => rw [staf, List.length_append, ih, pbs_len]; omega
/-- What is saved, from the front. -/
theorem svd_front (f c m : Bool) (n at_ ch : Nat) (g : C) (Sc St : Nat → C) : svd f c m n at_ ch g Sc St = [81, 86, 83, 49, flg f c m 3, n] ++ (be8 g.1 ++ (be8 g.2 ++ (secf Sc 0 n ++ (be8 at_ ++ (be8 ch ++ staf St 0 n))))) := by
  have h1 := secb_secf Sc n 0
  have h2 := stab_staf St n 0
  rw [Nat.zero_add] at h1 h2
  unfold svd hdr
  rw [h1, h2]
  simp [pbs, secb, stab]
theorem secf_five (Sc : Nat → C) (k m : Nat) (L : List Nat) : secf Sc k (m + 1) ++ L = be8 (Sc (k * 5)).1 ++ (be8 (Sc (k * 5)).2 ++ (be8 (Sc (k * 5 + 1)).1 ++ (be8 (Sc (k * 5 + 1)).2 ++ (be8 (Sc (k * 5 + 2)).1 ++ (be8 (Sc (k * 5 + 2)).2 ++ (be8 (Sc (k * 5 + 3)).1 ++ (be8 (Sc (k * 5 + 3)).2 ++ (be8 (Sc (k * 5 + 4)).1 ++ (be8 (Sc (k * 5 + 4)).2 ++ (secf Sc (k + 1) m ++ L)))))))))) := by
  simp [secf, pbs]
theorem staf_two (St : Nat → C) (k m : Nat) : staf St k (m + 1) = be8 (St (k * 2)).1 ++ (be8 (St (k * 2)).2 ++ (be8 (St (k * 2 + 1)).1 ++ (be8 (St (k * 2 + 1)).2 ++ staf St (k + 1) m))) := by
  simp [staf, pbs]
def b2 (b : Bool) (x : Int) : Int := if b then x else 0
theorem and1 (f c m : Bool) : bits .and .u8 ((flg f c m 3 : Nat) : Int) 1 = b2 f 1 := by cases f <;> cases c <;> cases m <;> decide
theorem and2 (f c m : Bool) : bits .and .u8 ((flg f c m 3 : Nat) : Int) 2 = b2 c 2 := by cases f <;> cases c <;> cases m <;> decide
theorem and4 (f c m : Bool) : bits .and .u8 ((flg f c m 3 : Nat) : Int) 4 = b2 m 4 := by cases f <;> cases c <;> cases m <;> decide

set_option linter.unusedSimpArgs false in
set_option maxHeartbeats 2000000 in
set_option maxRecDepth 100000 in
theorem sload_any (P n cap : Nat) (f c m : Bool) (at_ ch : Nat) (g : C) (Sc St : Nat → C) (w : World) (n16 : n ≤ 16) (hg : wf g ∧ ccn g = g) (hgf : FinC g) (hSc : ∀ j, j < n * 5 → wf (Sc j) ∧ ccn (Sc j) = Sc j) (hfin : ∀ j, j < n * 5 → FinC (Sc j))
    (hSt : ∀ j, j < n * 2 → wf (St j) ∧ ccn (St j) = St j) (hat : at_ < 18446744073709551616) (hch : ch < 18446744073709551616) (hcap : 38 + 112 * n ≤ cap) (hb : ∀ j x : Nat, (svd f c m n at_ ch g Sc St)[j]? = some x → w.cell? ⟨P, j, none⟩ = some (.int .u8 (x : Int))) :
    Calls Try.prog 44 #[.slice (some ⟨P, 0, none⟩) (38 + 112 * n) cap] w fun e w' => ∃ d p q, e = .returned (.tuple #[.pointer (some ⟨d, 0, none⟩), .int .i64 0]) ∧ w.heap.size ≤ d ∧ w.heap.size ≤ p ∧ w.heap.size ≤ q ∧ Stm w' d p q n f c m at_ ch g Sc St ∧ But [] w w' := by
  rw [svd_front] at hb
  have c0 := hb 0 _ rfl
  have c1 := hb 1 _ rfl
  have c2 := hb 2 _ rfl
  have c3 := hb 3 _ rfl
  have c4 := hb 4 _ rfl
  have c5 := hb 5 _ rfl
  have hPl : P < w.heap.size := World.block_lt_of_cell? w ⟨P, 0, none⟩ c0
  have hcv : ∀ W : World, W.cell? ⟨P, 0, none⟩ = some (.int .u8 ((81 : Nat) : Int)) → W.cell? ⟨P, 1, none⟩ = some (.int .u8 ((86 : Nat) : Int)) → W.cell? ⟨P, 2, none⟩ = some (.int .u8 ((83 : Nat) : Int)) → W.cell? ⟨P, 3, none⟩ = some (.int .u8 ((49 : Nat) : Int)) → (convert 37 9 (.slice (some ⟨P, 0, none⟩) 4 cap)).run Try.prog W = .ok (.string ⟨#[81, 86, 83, 49]⟩) W := fun W d0 d1 d2 d3 => by
    refine run_convert_bytes_back W 37 9 5 ⟨P, 0, none⟩ cap [81, 86, 83, 49] Try.underlying37 Try.underlying5 Try.underlying9 (fun j hj => ?_)
    rw [Addr.add_lit]
    rcases j with _ | _ | _ | _ | j
    · exact d0
    · exact d1
    · exact d2
    · exact d3
    · exact absurd hj (by simp)
  have hcw := hcv w c0 c1 c2 c3
  have HB := Lib.hid hb
  have HSc := Lib.hid hSc
  have HSt := Lib.hid hSt
  have Hfin := Lib.hid hfin
  have e1 := and1 f c m
  have e2 := and2 f c m
  have e3 := and4 f c m
  have fl7 := flg_lt f c m 3
  have n1 : (b2 f 1 != 0) = f := by cases f <;> rfl
  have n2 : (b2 c 2 != 0) = c := by cases c <;> rfl
  have n3 : (b2 m 4 != 0) = m := by cases m <;> rfl
  clear hb hSc hSt hfin hcv
  have t1 : IntKind.i64.wrap (112 * (n : Int)) = 112 * (n : Int) := IntWalk.i64_in _ (by omega)
  have t2 : IntKind.i64.wrap (38 + 112 * (n : Int)) = 38 + 112 * (n : Int) := IntWalk.i64_in _ (by omega)
  go_enter Try.func44, Try.ntmps44
  go_wp2_with fail
  refine wp_region_noPanic ?_
  refine wp_region_held_drew (S := fun w' => But [] w w' ∧ w'.cell? ⟨P, 4, none⟩ = some (.int .u8 ((flg f c m 3 : Nat) : Int))) (by kernel_rfl) ?_ (fun hHeld => ?_)
  · (try dsimp only); exact ⟨(But.refl [] w).drew, c4⟩
  (refine wpAnyH_take (i := 0) (oi := _) (v := _) rfl (by decide +kernel) (by decide +kernel) (by decide +kernel) (fun _ _ _ h => h) (Or.inl ⟨by rfl, by (intro w hSw; (try dsimp only at hSw); go_simp; try with_reducible rfl)⟩) (by assumption) ?_; (try simp only [Act.put, List.setIfInBounds_toArray, List.set_cons_zero, List.set_cons_succ, List.getElem_toArray, List.getElem_cons_succ, List.getElem_cons_zero]))
  (refine wpAnyH_take (i := 1) (oi := _) (v := _) rfl (by decide +kernel) (by decide +kernel) (by decide +kernel) (fun _ _ _ h => h) (Or.inl ⟨by rfl, by (intro w hSw; (try dsimp only at hSw); go_simp; try with_reducible rfl)⟩) (by assumption) ?_; (try simp only [Act.put, List.setIfInBounds_toArray, List.set_cons_zero, List.set_cons_succ, List.getElem_toArray, List.getElem_cons_succ, List.getElem_cons_zero]))
  (refine wpAnyH_take (i := 2) (oi := _) (v := _) rfl (by decide +kernel) (by decide +kernel) (by decide +kernel) (fun _ _ _ h => h) (Or.inl ⟨by rfl, by (intro w hSw; (try dsimp only at hSw); go_simp; try with_reducible rfl)⟩) (by assumption) ?_; (try simp only [Act.put, List.setIfInBounds_toArray, List.set_cons_zero, List.set_cons_succ, List.getElem_toArray, List.getElem_cons_succ, List.getElem_cons_zero]))
  (refine wpAnyH_take (i := 3) (oi := _) (v := _) rfl (by decide +kernel) (by decide +kernel) (by decide +kernel) (fun _ _ _ h => h) (Or.inl ⟨by rfl, by (intro w hSw; (try dsimp only at hSw); go_simp; try with_reducible rfl)⟩) (by assumption) ?_; (try simp only [Act.put, List.setIfInBounds_toArray, List.set_cons_zero, List.set_cons_succ, List.getElem_toArray, List.getElem_cons_succ, List.getElem_cons_zero]))
  (refine wpAnyH_take (i := 4) (oi := _) (v := _) rfl (by decide +kernel) (by decide +kernel) (by decide +kernel) (fun _ _ _ h => h) (Or.inl ⟨by rfl, by (intro w hSw; (try dsimp only at hSw); go_simp; try with_reducible rfl)⟩) (by assumption) ?_; (try simp only [Act.put, List.setIfInBounds_toArray, List.set_cons_zero, List.set_cons_succ, List.getElem_toArray, List.getElem_cons_succ, List.getElem_cons_zero]))
  (refine wpAnyH_take (i := 5) (oi := _) (v := _) rfl (by decide +kernel) (by decide +kernel) (by decide +kernel) (fun _ _ _ h => h) (Or.inl ⟨by rfl, by (intro w hSw; (try dsimp only at hSw); go_simp; try with_reducible rfl)⟩) (by assumption) ?_; (try simp only [Act.put, List.setIfInBounds_toArray, List.set_cons_zero, List.set_cons_succ, List.getElem_toArray, List.getElem_cons_succ, List.getElem_cons_zero]))
  (refine wpAnyH_take (i := 6) (oi := _) (v := _) rfl (by decide +kernel) (by decide +kernel) (by decide +kernel) (fun _ _ _ h => h) (Or.inl ⟨by rfl, by (intro w hSw; (try dsimp only at hSw); go_simp; try with_reducible rfl)⟩) (by assumption) ?_; (try simp only [Act.put, List.setIfInBounds_toArray, List.set_cons_zero, List.set_cons_succ, List.getElem_toArray, List.getElem_cons_succ, List.getElem_cons_zero]))
  (refine wpAnyH_take (i := 7) (oi := _) (v := _) rfl (by decide +kernel) (by decide +kernel) (by decide +kernel) (fun _ _ _ h => h) (Or.inl ⟨by rfl, by (intro w hSw; (try dsimp only at hSw); go_simp; try with_reducible rfl)⟩) (by assumption) ?_; (try simp only [Act.put, List.setIfInBounds_toArray, List.set_cons_zero, List.set_cons_succ, List.getElem_toArray, List.getElem_cons_succ, List.getElem_cons_zero]))
  (refine wpAnyH_take (i := 8) (oi := _) (v := _) rfl (by decide +kernel) (by decide +kernel) (by decide +kernel) (fun _ _ _ h => h) (Or.inl ⟨by rfl, by (intro w hSw; (try dsimp only at hSw); go_simp; try with_reducible rfl)⟩) (by assumption) ?_; (try simp only [Act.put, List.setIfInBounds_toArray, List.set_cons_zero, List.set_cons_succ, List.getElem_toArray, List.getElem_cons_succ, List.getElem_cons_zero]))
  (refine wpAnyH_take (i := 9) (oi := _) (v := _) rfl (by decide +kernel) (by decide +kernel) (by decide +kernel) (fun _ _ _ h => h) (Or.inl ⟨by rfl, by (intro w hSw; (try dsimp only at hSw); go_simp; try with_reducible rfl)⟩) (by assumption) ?_; (try simp only [Act.put, List.setIfInBounds_toArray, List.set_cons_zero, List.set_cons_succ, List.getElem_toArray, List.getElem_cons_succ, List.getElem_cons_zero]))
  (refine wpAnyH_take (i := 10) (oi := _) (v := _) rfl (by decide +kernel) (by decide +kernel) (by decide +kernel) (fun _ _ _ h => h) (Or.inl ⟨by rfl, by (intro w hSw; (try dsimp only at hSw); go_simp; try with_reducible rfl)⟩) (by assumption) ?_; (try simp only [Act.put, List.setIfInBounds_toArray, List.set_cons_zero, List.set_cons_succ, List.getElem_toArray, List.getElem_cons_succ, List.getElem_cons_zero]))
  (refine wpAnyH_take (i := 11) (oi := _) (v := _) rfl (by decide +kernel) (by decide +kernel) (by decide +kernel) (fun _ _ _ h => h) (Or.inl ⟨by rfl, by (intro w hSw; (try dsimp only at hSw); go_simp; try with_reducible rfl)⟩) (by assumption) ?_; (try simp only [Act.put, List.setIfInBounds_toArray, List.set_cons_zero, List.set_cons_succ, List.getElem_toArray, List.getElem_cons_succ, List.getElem_cons_zero]))
  (refine wpAnyH_take (i := 12) (oi := _) (v := _) rfl (by decide +kernel) (by decide +kernel) (by decide +kernel) (fun _ _ _ h => h) (Or.inl ⟨by rfl, by (intro w hSw; (try dsimp only at hSw); go_simp; try with_reducible rfl)⟩) (by assumption) ?_; (try simp only [Act.put, List.setIfInBounds_toArray, List.set_cons_zero, List.set_cons_succ, List.getElem_toArray, List.getElem_cons_succ, List.getElem_cons_zero]))
  (refine wpAnyH_take (i := 13) (oi := _) (v := _) rfl (by decide +kernel) (by decide +kernel) (by decide +kernel) (fun _ _ _ h => h) (Or.inl ⟨by rfl, by (intro w hSw; (try dsimp only at hSw); go_simp; try with_reducible rfl)⟩) (by assumption) ?_; (try simp only [Act.put, List.setIfInBounds_toArray, List.set_cons_zero, List.set_cons_succ, List.getElem_toArray, List.getElem_cons_succ, List.getElem_cons_zero]))
  (refine wpAnyH_take (i := 14) (oi := _) (v := _) rfl (by decide +kernel) (by decide +kernel) (by decide +kernel) (fun _ _ _ h => h) (Or.inl ⟨by rfl, by (intro w hSw; (try dsimp only at hSw); go_simp; try with_reducible rfl)⟩) (by assumption) ?_; (try simp only [Act.put, List.setIfInBounds_toArray, List.set_cons_zero, List.set_cons_succ, List.getElem_toArray, List.getElem_cons_succ, List.getElem_cons_zero]))
  (refine wpAnyH_take (i := 15) (oi := _) (v := _) rfl (by decide +kernel) (by decide +kernel) (by decide +kernel) (fun _ _ _ h => h) (Or.inl ⟨by rfl, by (intro w hSw; (try dsimp only at hSw); go_simp; try with_reducible rfl)⟩) (by assumption) ?_; (try simp only [Act.put, List.setIfInBounds_toArray, List.set_cons_zero, List.set_cons_succ, List.getElem_toArray, List.getElem_cons_succ, List.getElem_cons_zero]))
  refine wpAnyH_ready (rs := [16]) (by decide +kernel) (by simp) ?_
  refine AllReadyH.cons (o := _) rfl (fun K hK => ?_) AllReadyH.nil
  go_simp
  refine hK.out _ _ (by (try dsimp only); exact ⟨hHeld.1.alloc (.cells #[.bool false, .bool false, .bool false] 57), (hHeld.1.alloc (.cells #[.bool false, .bool false, .bool false] 57)).cell c4 (by simp)⟩) (fun hNew => ?_); clear hK K; clear hHeld; have hHeld := hNew; clear hNew
  (try simp only [Act.put, List.setIfInBounds_toArray, List.set_cons_zero, List.set_cons_succ, List.getElem_toArray, List.getElem_cons_succ, List.getElem_cons_zero])
  refine wpAnyH_ready (rs := [17]) (by decide +kernel) (by simp) ?_
  refine AllReadyH.cons (o := _) rfl (fun K hK => ?_) AllReadyH.nil
  go_simp
  refine hK.out _ _ (by (try dsimp only); exact ⟨((But.refl [] w).alloc _).drew, ((But.refl [] w).alloc _).drew.cell c4 (by simp)⟩) (fun hNew => ?_); clear hK K; clear hHeld; have hHeld := hNew; clear hNew
  (try simp only [Act.put, List.setIfInBounds_toArray, List.set_cons_zero, List.set_cons_succ, List.getElem_toArray, List.getElem_cons_succ, List.getElem_cons_zero])
  refine wpAnyH_done (by decide +kernel) ?_ _
  refine NoPanic.normal ?_; (try simp only [Exit.then])
  clear hHeld e1 e2 e3 n1 n2 n3
  obtain ⟨wa, hwa, hba, hGa, hsa⟩ : ∃ wa, (w.alloc (.cells #[.bool f, .bool c, .bool m] 57)).drew = wa ∧ But [] w wa ∧ wa.heap[w.heap.size]? = some (.cells #[.bool f, .bool c, .bool m] 57 (0, 0)) ∧ wa.heap.size = w.heap.size + 1 := ⟨_, rfl, ((But.refl _ _).alloc _).drew, heap_alloc_new w _, by show (w.alloc _).heap.size = _; simp⟩
  rw [hwa]
  have HSA := Lib.hid hsa
  have HGA := Lib.hid hGa
  have hc6 : ¬ cap = 6 := by omega
  clear hwa hsa hGa c0 c1 c2 c3 c4 c5 hcw
  go_wp2_with fail
  have hrd : RD (wa.alloc (.cells #[.slice (some ⟨P, 6, none⟩) (38 + 112 * n - 6) (cap - 6), .bool false] 127)) wa.heap.size P (be8 g.1 ++ (be8 g.2 ++ (secf Sc 0 n ++ (be8 at_ ++ (be8 ch ++ staf St 0 n))))) := by
    have hsz := hba.size
    refine ⟨by omega, 6, cap - 6, ?_, ?_, fun j x hj => ?_⟩
    · rw [show (be8 g.1 ++ (be8 g.2 ++ (secf Sc 0 n ++ (be8 at_ ++ (be8 ch ++ staf St 0 n))))).length = 38 + 112 * n - 6 by simp only [List.length_append, be8_len, secf_len, staf_len]; omega]
      exact heap_alloc_new wa _
    · simp only [List.length_append, be8_len, secf_len, staf_len]; omega
    · exact (hba.alloc _).cell (HB.out (6 + j) x (by rw [List.getElem?_append_right (by simp)]; simpa using hj)) (by simp)
  obtain ⟨rest, hrest, hrl⟩ : ∃ rest, be8 at_ ++ (be8 ch ++ staf St 0 n) = rest ∧ rest.length ≤ 1000 := ⟨_, rfl, by simp only [List.length_append, be8_len, staf_len]; omega⟩
  rw [hrest] at hrd
  refine (rdwhole_any wa.heap.size P g (secf Sc 0 n ++ rest) hg.1 hg.2 _ hrd (by simp only [List.length_append, secf_len]; omega)).mono ?_
  rintro e wb ⟨rfl, hrd1, hbb⟩
  have hsa1 := hba.size
  have hwb : But [] w wb := (hba.alloc _).then hbb (fun i hi hm => by simp at hm; omega)
  have hsb : wa.heap.size < wb.heap.size := by have := hbb.size; simp at this; omega
  have hGb := (hbb.heap (((But.refl [] wa).alloc _).heap HGA.out (by simp)) (by have := HSA.out; simp; omega))
  have HGB := Lib.hid hGb
  have HRD1 := Lib.hid hrd1
  have HREST := Lib.hid hrest
  obtain ⟨R, hR⟩ : ∃ R, wa.heap.size = R := ⟨_, rfl⟩
  have hRl := HSA.out
  rw [hR] at hbb HRD1 hsb hRl ⊢
  have HRL := Lib.hid hRl
  clear hR hrd hbb hGb hrd1 hba HGA HSA hRl hsa1 fl7 hrest
  go_wp2_with fail
  obtain ⟨wc, hwc, hbc, hTc, hsc⟩ : ∃ wc, wb.alloc (.cells #[.complex .f64 g.1 g.2, .slice none 0 0] 28) = wc ∧ But [] wb wc ∧ wc.heap[wb.heap.size]? = some (.cells #[.complex .f64 g.1 g.2, .slice none 0 0] 28 (0, 0)) ∧ wc.heap.size = wb.heap.size + 1 := ⟨_, rfl, (But.refl _ _).alloc _, heap_alloc_new wb _, by simp⟩
  rw [hwc]
  have hwbc := hwb.trans hbc
  have hRDc := HRD1.out.keep hbc (by simp) (by simp)
  obtain ⟨T, hTe⟩ : ∃ T, wb.heap.size = T := ⟨_, rfl⟩
  rw [hTe] at hsc hTc hsb ⊢
  have HSC := Lib.hid hsc
  have hwbs := hwb.size
  have hTw : w.heap.size ≤ T := by omega
  have hGc := hbc.heap HGB.out (by simp)
  have HGC := Lib.hid hGc
  clear hwc hTe hsc hwbs hbc hwb HRD1 HGB hGc
  go_loopw [77] (fun i wr => ∃ (k : Nat) (v : Value), k ≤ n ∧ i = .int .i64 k ∧ OR wr (T + 1) 33 5 v k Sc ∧ wr.heap[T]? = some (.cells #[.complex .f64 g.1 g.2, v] 28 (0, 0)) ∧ RD wr R P (secf Sc k (n - k) ++ rest) ∧ But [R, T] wc wr) (fun i _ => n - (intOf i).toNat)
  case atStart => exact ⟨0, .slice none 0 0, Nat.zero_le _, rfl, OR.nil _ _ _ _ _, hTc, by simpa using hRDc, But.refl _ _⟩
  case round =>
    obtain ⟨k, v, hk, rfl, hor, hTr, hrd, hbr⟩ := hrel
    have hvb : ∀ g, v.ownBlock = some g → T + 1 ≤ g := fun g hg => (hor.lt g hg).1
    have hszr : T < wr.heap.size := by have := hbr.size; have := HSC.out; omega
    by_cases hlt : k < n
    · rw [show n - k = (n - k - 1) + 1 by omega, secf_five] at hrd
      obtain ⟨X, hX, hXl⟩ : ∃ X, secf Sc (k + 1) (n - k - 1) ++ rest = X ∧ X.length ≤ 3000 := ⟨_, rfl, by simp only [List.length_append, secf_len]; omega⟩
      rw [hX] at hrd
      have HX := Lib.hid hX
      have HBR := Lib.hid hbr
      have HTR := Lib.hid hTr
      have hx : wr.drew.cell? ⟨T, 1, none⟩ = some v := by rw [cell_of_row wr.drew T 1 _ _ _ hTr]; rfl
      have hrd0 := hrd.keep ((But.refl [] wr).drew) (by simp) (by simp)
      have hbx0 : But [R] wr wr.drew := (But.refl _ _).drew
      have t9 : (k : Int) < n := by omega
      clear hX hbr hTr hrd hTc hRDc
      go_wp2_with fail
      refine wp_region_noPanic ?_
      refine wp_region_held_drew (S := fun _ => True) (by kernel_rfl) ?_ (fun hHeld => ?_)
      · (try dsimp only); (try exact trivial)
      (refine wpAnyH_take (i := 0) (oi := _) (v := _) rfl (by decide +kernel) (by decide +kernel) (by decide +kernel) (fun _ _ _ h => h) (Or.inl ⟨by rfl, by (intro w hSw; (try dsimp only at hSw); go_simp; try with_reducible rfl)⟩) (by assumption) ?_; (try simp only [Act.put, List.setIfInBounds_toArray, List.set_cons_zero, List.set_cons_succ, List.getElem_toArray, List.getElem_cons_succ, List.getElem_cons_zero]))
      (refine wpAnyH_take (i := 2) (oi := _) (v := _) rfl (by decide +kernel) (by decide +kernel) (by decide +kernel) (fun _ _ _ h => h) (Or.inl ⟨by rfl, by (intro w hSw; (try dsimp only at hSw); go_simp; try with_reducible rfl)⟩) (by assumption) ?_; (try simp only [Act.put, List.setIfInBounds_toArray, List.set_cons_zero, List.set_cons_succ, List.getElem_toArray, List.getElem_cons_succ, List.getElem_cons_zero]))
      (refine wpAnyH_take (i := 4) (oi := _) (v := _) rfl (by decide +kernel) (by decide +kernel) (by decide +kernel) (fun _ _ _ h => h) (Or.inl ⟨by rfl, by (intro w hSw; (try dsimp only at hSw); go_simp; try with_reducible rfl)⟩) (by assumption) ?_; (try simp only [Act.put, List.setIfInBounds_toArray, List.set_cons_zero, List.set_cons_succ, List.getElem_toArray, List.getElem_cons_succ, List.getElem_cons_zero]))
      (refine wpAnyH_take (i := 6) (oi := _) (v := _) rfl (by decide +kernel) (by decide +kernel) (by decide +kernel) (fun _ _ _ h => h) (Or.inl ⟨by rfl, by (intro w hSw; (try dsimp only at hSw); go_simp; try with_reducible rfl)⟩) (by assumption) ?_; (try simp only [Act.put, List.setIfInBounds_toArray, List.set_cons_zero, List.set_cons_succ, List.getElem_toArray, List.getElem_cons_succ, List.getElem_cons_zero]))
      (refine wpAnyH_take (i := 8) (oi := _) (v := _) rfl (by decide +kernel) (by decide +kernel) (by decide +kernel) (fun _ _ _ h => h) (Or.inl ⟨by rfl, by (intro w hSw; (try dsimp only at hSw); go_simp; try with_reducible rfl)⟩) (by assumption) ?_; (try simp only [Act.put, List.setIfInBounds_toArray, List.set_cons_zero, List.set_cons_succ, List.getElem_toArray, List.getElem_cons_succ, List.getElem_cons_zero]))
      (refine wpAnyH_take (i := 10) (oi := _) (v := _) rfl (by decide +kernel) (by decide +kernel) (by decide +kernel) (fun _ _ _ h => h) (Or.inl ⟨by rfl, by (intro w hSw; (try dsimp only at hSw); go_simp; try with_reducible rfl)⟩) (by assumption) ?_; (try simp only [Act.put, List.setIfInBounds_toArray, List.set_cons_zero, List.set_cons_succ, List.getElem_toArray, List.getElem_cons_succ, List.getElem_cons_zero]))
      refine wpAnyH_ready (rs := [1, 3]) (by decide +kernel) (by simp) ?_
      refine AllReadyH.cons (o := _) rfl (fun K hK => ?_) ?_
      · go_simp
        refine hK.out _ _ (by (try dsimp only); (try exact trivial)) (fun hNew => ?_); clear hK K; clear hHeld; have hHeld := hNew; clear hNew
        (try simp only [Act.put, List.setIfInBounds_toArray, List.set_cons_zero, List.set_cons_succ, List.getElem_toArray, List.getElem_cons_succ, List.getElem_cons_zero])
        refine wpAnyH_ready (rs := [3]) (by decide +kernel) (by simp) ?_
        refine AllReadyH.cons (o := _) rfl (fun K hK => ?_) AllReadyH.nil
        go_simp; go_at_call 87; refine (rdwhole_any R P (Sc (k * 5)) _ (HSc.out _ (by omega)).1 (HSc.out _ (by omega)).2 _ hrd0 (by (try simp only [List.length_append, be8_len]); omega)).mono ?_; rintro e w1 ⟨rfl, hrd1, hbc1⟩; have hbx1 := hbx0.trans hbc1; replace hx := hbc1.cell hx (by simp; omega); go_wp2_with fail
        refine hK.out _ _ (by (try dsimp only); (try exact trivial)) (fun hNew => ?_); clear hK K; clear hHeld; have hHeld := hNew; clear hNew
        (try simp only [Act.put, List.setIfInBounds_toArray, List.set_cons_zero, List.set_cons_succ, List.getElem_toArray, List.getElem_cons_succ, List.getElem_cons_zero])
        refine wpAnyH_ready (rs := [5]) (by decide +kernel) (by simp) ?_
        refine AllReadyH.cons (o := _) rfl (fun K hK => ?_) AllReadyH.nil
        go_simp; go_at_call 87; refine (rdwhole_any R P (Sc (k * 5 + 1)) _ (HSc.out _ (by omega)).1 (HSc.out _ (by omega)).2 _ hrd1 (by (try simp only [List.length_append, be8_len]); omega)).mono ?_; rintro e w2 ⟨rfl, hrd2, hbc2⟩; have hbx2 := hbx1.trans hbc2; replace hx := hbc2.cell hx (by simp; omega); go_wp2_with fail
        refine hK.out _ _ (by (try dsimp only); (try exact trivial)) (fun hNew => ?_); clear hK K; clear hHeld; have hHeld := hNew; clear hNew
        (try simp only [Act.put, List.setIfInBounds_toArray, List.set_cons_zero, List.set_cons_succ, List.getElem_toArray, List.getElem_cons_succ, List.getElem_cons_zero])
        refine wpAnyH_ready (rs := [7]) (by decide +kernel) (by simp) ?_
        refine AllReadyH.cons (o := _) rfl (fun K hK => ?_) AllReadyH.nil
        go_simp; go_at_call 87; refine (rdwhole_any R P (Sc (k * 5 + 2)) _ (HSc.out _ (by omega)).1 (HSc.out _ (by omega)).2 _ hrd2 (by (try simp only [List.length_append, be8_len]); omega)).mono ?_; rintro e w3 ⟨rfl, hrd3, hbc3⟩; have hbx3 := hbx2.trans hbc3; replace hx := hbc3.cell hx (by simp; omega); go_wp2_with fail
        refine hK.out _ _ (by (try dsimp only); (try exact trivial)) (fun hNew => ?_); clear hK K; clear hHeld; have hHeld := hNew; clear hNew
        (try simp only [Act.put, List.setIfInBounds_toArray, List.set_cons_zero, List.set_cons_succ, List.getElem_toArray, List.getElem_cons_succ, List.getElem_cons_zero])
        refine wpAnyH_ready (rs := [9]) (by decide +kernel) (by simp) ?_
        refine AllReadyH.cons (o := _) rfl (fun K hK => ?_) AllReadyH.nil
        go_simp; go_at_call 87; refine (rdwhole_any R P (Sc (k * 5 + 3)) _ (HSc.out _ (by omega)).1 (HSc.out _ (by omega)).2 _ hrd3 (by (try simp only [List.length_append, be8_len]); omega)).mono ?_; rintro e w4 ⟨rfl, hrd4, hbc4⟩; have hbx4 := hbx3.trans hbc4; replace hx := hbc4.cell hx (by simp; omega); go_wp2_with fail
        refine hK.out _ _ (by (try dsimp only); (try exact trivial)) (fun hNew => ?_); clear hK K; clear hHeld; have hHeld := hNew; clear hNew
        (try simp only [Act.put, List.setIfInBounds_toArray, List.set_cons_zero, List.set_cons_succ, List.getElem_toArray, List.getElem_cons_succ, List.getElem_cons_zero])
        refine wpAnyH_ready (rs := [11]) (by decide +kernel) (by simp) ?_
        refine AllReadyH.cons (o := _) rfl (fun K hK => ?_) AllReadyH.nil
        go_simp; go_at_call 87; refine (rdwhole_any R P (Sc (k * 5 + 4)) _ (HSc.out _ (by omega)).1 (HSc.out _ (by omega)).2 _ hrd4 (by (try simp only [List.length_append, be8_len]); omega)).mono ?_; rintro e w5 ⟨rfl, hrd5, hbc5⟩; have hbx5 := hbx4.trans hbc5; replace hx := hbc5.cell hx (by simp; omega); go_wp2_with fail
        refine hK.out _ _ (by (try dsimp only); (try exact trivial)) (fun hNew => ?_); clear hK K; clear hHeld; have hHeld := hNew; clear hNew
        (try simp only [Act.put, List.setIfInBounds_toArray, List.set_cons_zero, List.set_cons_succ, List.getElem_toArray, List.getElem_cons_succ, List.getElem_cons_zero])
        (refine wpAnyH_take (i := 12) (oi := _) (v := _) rfl (by decide +kernel) (by decide +kernel) (by decide +kernel) (fun _ _ _ h => h) (Or.inl ⟨by rfl, by (intro w hSw; (try dsimp only at hSw); go_simp; try with_reducible rfl)⟩) (by assumption) ?_; (try simp only [Act.put, List.setIfInBounds_toArray, List.set_cons_zero, List.set_cons_succ, List.getElem_toArray, List.getElem_cons_succ, List.getElem_cons_zero]))
        refine wpAnyH_ready (rs := [13]) (by decide +kernel) (by simp) ?_
        refine AllReadyH.cons (o := _) rfl (fun K hK => ?_) AllReadyH.nil
        go_simp; have hx := ((But.refl [] w5).alloc (.cells #[.complex .f64 (Sc (k * 5)).1 (Sc (k * 5)).2, .complex .f64 (Sc (k * 5 + 1)).1 (Sc (k * 5 + 1)).2, .complex .f64 (Sc (k * 5 + 2)).1 (Sc (k * 5 + 2)).2, .complex .f64 (Sc (k * 5 + 3)).1 (Sc (k * 5 + 3)).2, .complex .f64 (Sc (k * 5 + 4)).1 (Sc (k * 5 + 4)).2] 33)).cell hx (by simp)
        refine hK.out _ _ (by (try dsimp only); (try exact trivial)) (fun hNew => ?_); clear hK K; clear hHeld; have hHeld := hNew; clear hNew
        (try simp only [Act.put, List.setIfInBounds_toArray, List.set_cons_zero, List.set_cons_succ, List.getElem_toArray, List.getElem_cons_succ, List.getElem_cons_zero])
        refine wpAnyH_ready (rs := [14]) (by decide +kernel) (by simp) ?_
        refine AllReadyH.cons (o := _) rfl (fun K hK => ?_) AllReadyH.nil
        have hor5 : OR w5 (T + 1) 33 5 v k Sc := hor.keep hbx5 (fun g hg => by have := hvb g hg; simp; omega); refine step_append_rc _ rfl _ _ _ rfl (T + 1) 33 _ 5 80 Try.underlying26 Try.info33 rfl (by omega) v k Sc rfl (hor5.alloc _) (some ⟨w5.heap.size, 0, none⟩) w5.heap.size 0 1 1 (fun i => Sc (k * 5 + i)) rfl (fun _ => rfl) (five_rct w5 33 _ _ _ _ _ (fun i => Sc (k * 5 + i)) (HSc.out _ (by omega)).1 (HSc.out _ (by omega)).1 (HSc.out _ (by omega)).1 (HSc.out _ (by omega)).1 (HSc.out _ (by omega)).1 (HSc.out _ (by omega)).2 (HSc.out _ (by omega)).2 (HSc.out _ (by omega)).2 (HSc.out _ (by omega)).2 (HSc.out _ (by omega)).2) (by omega) (by omega) (by have := hbx5.size; simp; omega) ?_; intro v' w6 hor6 hgr hob hnn; have hbA : But v.ownBlock.toList w5 w6 := ((But.refl _ w5).alloc _).grown hgr (fun g hg => .inl (by simp [hg])); have hT6 := hbA.heap (hbx5.heap HTR.out (by simp; omega)) (fun h => by have := hvb T (by simpa using h); omega); have hrd6 := hrd5.keep hbA (fun h => by have := hvb R (by simpa using h); omega) (fun h => by have := hvb P (by simpa using h); omega); have hfr6 := blk_free (i := 1) hT6; have hx6 := (cell_of_row w6 T 1 _ _ _ hT6).trans (c := some v) rfl; obtain ⟨g', cap', rfl⟩ := or_slice hor6 (by omega)
        refine hK.out _ _ (by (try dsimp only); (try exact trivial)) (fun hNew => ?_); clear hK K; clear hHeld; have hHeld := hNew; clear hNew
        (try simp only [Act.put, List.setIfInBounds_toArray, List.set_cons_zero, List.set_cons_succ, List.getElem_toArray, List.getElem_cons_succ, List.getElem_cons_zero])
        (refine wpAnyH_take (i := 15) (oi := _) (v := _) rfl (by decide +kernel) (by decide +kernel) (by decide +kernel) (fun _ _ _ h => h) (Or.inl ⟨by rfl, by (intro w hSw; (try dsimp only at hSw); go_simp; try with_reducible rfl)⟩) (by assumption) ?_; (try simp only [Act.put, List.setIfInBounds_toArray, List.set_cons_zero, List.set_cons_succ, List.getElem_toArray, List.getElem_cons_succ, List.getElem_cons_zero]))
        refine wpAnyH_ready (rs := [16]) (by decide +kernel) (by simp) ?_
        refine AllReadyH.cons (o := _) rfl (fun K hK => ?_) AllReadyH.nil
        go_simp
        refine hK.out _ _ (by (try dsimp only); (try exact trivial)) (fun hNew => ?_); clear hK K; clear hHeld; have hHeld := hNew; clear hNew
        (try simp only [Act.put, List.setIfInBounds_toArray, List.set_cons_zero, List.set_cons_succ, List.getElem_toArray, List.getElem_cons_succ, List.getElem_cons_zero])
        refine wpAnyH_done (by decide +kernel) ?_ _
        refine NoPanic.normal ?_; (try simp only [Exit.then])
        go_wp2_with fail
        have hscT := HSC.out
        have hbS : But [T] w6 (w6.setCell ⟨T, 1, none⟩ (.slice (some ⟨g', 0, none⟩) (k + 1) cap')) := (But.refl _ _).setCell _ _ (.inl (by simp))
        refine ⟨⟨k + 1, _, by omega, by go_num, (hor6.congr (ys := Sc) (fun j hj => cat_self _ _ _)).keep hbS (fun g hg => by have := (hor6.lt g hg).1; simp; omega), by rw [blk_set _ _ _ _ _ _ hT6]; rfl, ?_, ?_⟩, by simp [intOf]; omega⟩
        · rw [show n - (k + 1) = n - k - 1 by omega, HX.out]
          exact hrd6.keep hbS (by simp; omega) (by simp; omega)
        · exact ((HBR.out.then hbx5 (fun i hi hm => by simp at hm; simp [hm])).then hbA (fun i hi hm => by have := hvb i (by simpa using hm); omega)).then hbS (fun i hi hm => by simp at hm; simp [hm])
      refine AllReadyH.cons (o := _) rfl (fun K hK => ?_) AllReadyH.nil
      go_simp; go_at_call 87; refine (rdwhole_any R P (Sc (k * 5)) _ (HSc.out _ (by omega)).1 (HSc.out _ (by omega)).2 _ hrd0 (by (try simp only [List.length_append, be8_len]); omega)).mono ?_; rintro e w1 ⟨rfl, hrd1, hbc1⟩; have hbx1 := hbx0.trans hbc1; replace hx := hbc1.cell hx (by simp; omega); go_wp2_with fail
      refine hK.out _ _ (by (try dsimp only); (try exact trivial)) (fun hNew => ?_); clear hK K; clear hHeld; have hHeld := hNew; clear hNew
      (try simp only [Act.put, List.setIfInBounds_toArray, List.set_cons_zero, List.set_cons_succ, List.getElem_toArray, List.getElem_cons_succ, List.getElem_cons_zero])
      refine wpAnyH_ready (rs := [1, 5]) (by decide +kernel) (by simp) ?_
      refine AllReadyH.cons (o := _) rfl (fun K hK => ?_) ?_
      · go_simp
        refine hK.out _ _ (by (try dsimp only); (try exact trivial)) (fun hNew => ?_); clear hK K; clear hHeld; have hHeld := hNew; clear hNew
        (try simp only [Act.put, List.setIfInBounds_toArray, List.set_cons_zero, List.set_cons_succ, List.getElem_toArray, List.getElem_cons_succ, List.getElem_cons_zero])
        refine wpAnyH_ready (rs := [5]) (by decide +kernel) (by simp) ?_
        refine AllReadyH.cons (o := _) rfl (fun K hK => ?_) AllReadyH.nil
        go_simp; go_at_call 87; refine (rdwhole_any R P (Sc (k * 5 + 1)) _ (HSc.out _ (by omega)).1 (HSc.out _ (by omega)).2 _ hrd1 (by (try simp only [List.length_append, be8_len]); omega)).mono ?_; rintro e w2 ⟨rfl, hrd2, hbc2⟩; have hbx2 := hbx1.trans hbc2; replace hx := hbc2.cell hx (by simp; omega); go_wp2_with fail
        refine hK.out _ _ (by (try dsimp only); (try exact trivial)) (fun hNew => ?_); clear hK K; clear hHeld; have hHeld := hNew; clear hNew
        (try simp only [Act.put, List.setIfInBounds_toArray, List.set_cons_zero, List.set_cons_succ, List.getElem_toArray, List.getElem_cons_succ, List.getElem_cons_zero])
        refine wpAnyH_ready (rs := [7]) (by decide +kernel) (by simp) ?_
        refine AllReadyH.cons (o := _) rfl (fun K hK => ?_) AllReadyH.nil
        go_simp; go_at_call 87; refine (rdwhole_any R P (Sc (k * 5 + 2)) _ (HSc.out _ (by omega)).1 (HSc.out _ (by omega)).2 _ hrd2 (by (try simp only [List.length_append, be8_len]); omega)).mono ?_; rintro e w3 ⟨rfl, hrd3, hbc3⟩; have hbx3 := hbx2.trans hbc3; replace hx := hbc3.cell hx (by simp; omega); go_wp2_with fail
        refine hK.out _ _ (by (try dsimp only); (try exact trivial)) (fun hNew => ?_); clear hK K; clear hHeld; have hHeld := hNew; clear hNew
        (try simp only [Act.put, List.setIfInBounds_toArray, List.set_cons_zero, List.set_cons_succ, List.getElem_toArray, List.getElem_cons_succ, List.getElem_cons_zero])
        refine wpAnyH_ready (rs := [9]) (by decide +kernel) (by simp) ?_
        refine AllReadyH.cons (o := _) rfl (fun K hK => ?_) AllReadyH.nil
        go_simp; go_at_call 87; refine (rdwhole_any R P (Sc (k * 5 + 3)) _ (HSc.out _ (by omega)).1 (HSc.out _ (by omega)).2 _ hrd3 (by (try simp only [List.length_append, be8_len]); omega)).mono ?_; rintro e w4 ⟨rfl, hrd4, hbc4⟩; have hbx4 := hbx3.trans hbc4; replace hx := hbc4.cell hx (by simp; omega); go_wp2_with fail
        refine hK.out _ _ (by (try dsimp only); (try exact trivial)) (fun hNew => ?_); clear hK K; clear hHeld; have hHeld := hNew; clear hNew
        (try simp only [Act.put, List.setIfInBounds_toArray, List.set_cons_zero, List.set_cons_succ, List.getElem_toArray, List.getElem_cons_succ, List.getElem_cons_zero])
        refine wpAnyH_ready (rs := [11]) (by decide +kernel) (by simp) ?_
        refine AllReadyH.cons (o := _) rfl (fun K hK => ?_) AllReadyH.nil
        go_simp; go_at_call 87; refine (rdwhole_any R P (Sc (k * 5 + 4)) _ (HSc.out _ (by omega)).1 (HSc.out _ (by omega)).2 _ hrd4 (by (try simp only [List.length_append, be8_len]); omega)).mono ?_; rintro e w5 ⟨rfl, hrd5, hbc5⟩; have hbx5 := hbx4.trans hbc5; replace hx := hbc5.cell hx (by simp; omega); go_wp2_with fail
        refine hK.out _ _ (by (try dsimp only); (try exact trivial)) (fun hNew => ?_); clear hK K; clear hHeld; have hHeld := hNew; clear hNew
        (try simp only [Act.put, List.setIfInBounds_toArray, List.set_cons_zero, List.set_cons_succ, List.getElem_toArray, List.getElem_cons_succ, List.getElem_cons_zero])
        (refine wpAnyH_take (i := 12) (oi := _) (v := _) rfl (by decide +kernel) (by decide +kernel) (by decide +kernel) (fun _ _ _ h => h) (Or.inl ⟨by rfl, by (intro w hSw; (try dsimp only at hSw); go_simp; try with_reducible rfl)⟩) (by assumption) ?_; (try simp only [Act.put, List.setIfInBounds_toArray, List.set_cons_zero, List.set_cons_succ, List.getElem_toArray, List.getElem_cons_succ, List.getElem_cons_zero]))
        refine wpAnyH_ready (rs := [13]) (by decide +kernel) (by simp) ?_
        refine AllReadyH.cons (o := _) rfl (fun K hK => ?_) AllReadyH.nil
        go_simp; have hx := ((But.refl [] w5).alloc (.cells #[.complex .f64 (Sc (k * 5)).1 (Sc (k * 5)).2, .complex .f64 (Sc (k * 5 + 1)).1 (Sc (k * 5 + 1)).2, .complex .f64 (Sc (k * 5 + 2)).1 (Sc (k * 5 + 2)).2, .complex .f64 (Sc (k * 5 + 3)).1 (Sc (k * 5 + 3)).2, .complex .f64 (Sc (k * 5 + 4)).1 (Sc (k * 5 + 4)).2] 33)).cell hx (by simp)
        refine hK.out _ _ (by (try dsimp only); (try exact trivial)) (fun hNew => ?_); clear hK K; clear hHeld; have hHeld := hNew; clear hNew
        (try simp only [Act.put, List.setIfInBounds_toArray, List.set_cons_zero, List.set_cons_succ, List.getElem_toArray, List.getElem_cons_succ, List.getElem_cons_zero])
        refine wpAnyH_ready (rs := [14]) (by decide +kernel) (by simp) ?_
        refine AllReadyH.cons (o := _) rfl (fun K hK => ?_) AllReadyH.nil
        have hor5 : OR w5 (T + 1) 33 5 v k Sc := hor.keep hbx5 (fun g hg => by have := hvb g hg; simp; omega); refine step_append_rc _ rfl _ _ _ rfl (T + 1) 33 _ 5 80 Try.underlying26 Try.info33 rfl (by omega) v k Sc rfl (hor5.alloc _) (some ⟨w5.heap.size, 0, none⟩) w5.heap.size 0 1 1 (fun i => Sc (k * 5 + i)) rfl (fun _ => rfl) (five_rct w5 33 _ _ _ _ _ (fun i => Sc (k * 5 + i)) (HSc.out _ (by omega)).1 (HSc.out _ (by omega)).1 (HSc.out _ (by omega)).1 (HSc.out _ (by omega)).1 (HSc.out _ (by omega)).1 (HSc.out _ (by omega)).2 (HSc.out _ (by omega)).2 (HSc.out _ (by omega)).2 (HSc.out _ (by omega)).2 (HSc.out _ (by omega)).2) (by omega) (by omega) (by have := hbx5.size; simp; omega) ?_; intro v' w6 hor6 hgr hob hnn; have hbA : But v.ownBlock.toList w5 w6 := ((But.refl _ w5).alloc _).grown hgr (fun g hg => .inl (by simp [hg])); have hT6 := hbA.heap (hbx5.heap HTR.out (by simp; omega)) (fun h => by have := hvb T (by simpa using h); omega); have hrd6 := hrd5.keep hbA (fun h => by have := hvb R (by simpa using h); omega) (fun h => by have := hvb P (by simpa using h); omega); have hfr6 := blk_free (i := 1) hT6; have hx6 := (cell_of_row w6 T 1 _ _ _ hT6).trans (c := some v) rfl; obtain ⟨g', cap', rfl⟩ := or_slice hor6 (by omega)
        refine hK.out _ _ (by (try dsimp only); (try exact trivial)) (fun hNew => ?_); clear hK K; clear hHeld; have hHeld := hNew; clear hNew
        (try simp only [Act.put, List.setIfInBounds_toArray, List.set_cons_zero, List.set_cons_succ, List.getElem_toArray, List.getElem_cons_succ, List.getElem_cons_zero])
        (refine wpAnyH_take (i := 15) (oi := _) (v := _) rfl (by decide +kernel) (by decide +kernel) (by decide +kernel) (fun _ _ _ h => h) (Or.inl ⟨by rfl, by (intro w hSw; (try dsimp only at hSw); go_simp; try with_reducible rfl)⟩) (by assumption) ?_; (try simp only [Act.put, List.setIfInBounds_toArray, List.set_cons_zero, List.set_cons_succ, List.getElem_toArray, List.getElem_cons_succ, List.getElem_cons_zero]))
        refine wpAnyH_ready (rs := [16]) (by decide +kernel) (by simp) ?_
        refine AllReadyH.cons (o := _) rfl (fun K hK => ?_) AllReadyH.nil
        go_simp
        refine hK.out _ _ (by (try dsimp only); (try exact trivial)) (fun hNew => ?_); clear hK K; clear hHeld; have hHeld := hNew; clear hNew
        (try simp only [Act.put, List.setIfInBounds_toArray, List.set_cons_zero, List.set_cons_succ, List.getElem_toArray, List.getElem_cons_succ, List.getElem_cons_zero])
        refine wpAnyH_done (by decide +kernel) ?_ _
        refine NoPanic.normal ?_; (try simp only [Exit.then])
        go_wp2_with fail
        have hscT := HSC.out
        have hbS : But [T] w6 (w6.setCell ⟨T, 1, none⟩ (.slice (some ⟨g', 0, none⟩) (k + 1) cap')) := (But.refl _ _).setCell _ _ (.inl (by simp))
        refine ⟨⟨k + 1, _, by omega, by go_num, (hor6.congr (ys := Sc) (fun j hj => cat_self _ _ _)).keep hbS (fun g hg => by have := (hor6.lt g hg).1; simp; omega), by rw [blk_set _ _ _ _ _ _ hT6]; rfl, ?_, ?_⟩, by simp [intOf]; omega⟩
        · rw [show n - (k + 1) = n - k - 1 by omega, HX.out]
          exact hrd6.keep hbS (by simp; omega) (by simp; omega)
        · exact ((HBR.out.then hbx5 (fun i hi hm => by simp at hm; simp [hm])).then hbA (fun i hi hm => by have := hvb i (by simpa using hm); omega)).then hbS (fun i hi hm => by simp at hm; simp [hm])
      refine AllReadyH.cons (o := _) rfl (fun K hK => ?_) AllReadyH.nil
      go_simp; go_at_call 87; refine (rdwhole_any R P (Sc (k * 5 + 1)) _ (HSc.out _ (by omega)).1 (HSc.out _ (by omega)).2 _ hrd1 (by (try simp only [List.length_append, be8_len]); omega)).mono ?_; rintro e w2 ⟨rfl, hrd2, hbc2⟩; have hbx2 := hbx1.trans hbc2; replace hx := hbc2.cell hx (by simp; omega); go_wp2_with fail
      refine hK.out _ _ (by (try dsimp only); (try exact trivial)) (fun hNew => ?_); clear hK K; clear hHeld; have hHeld := hNew; clear hNew
      (try simp only [Act.put, List.setIfInBounds_toArray, List.set_cons_zero, List.set_cons_succ, List.getElem_toArray, List.getElem_cons_succ, List.getElem_cons_zero])
      refine wpAnyH_ready (rs := [1, 7]) (by decide +kernel) (by simp) ?_
      refine AllReadyH.cons (o := _) rfl (fun K hK => ?_) ?_
      · go_simp
        refine hK.out _ _ (by (try dsimp only); (try exact trivial)) (fun hNew => ?_); clear hK K; clear hHeld; have hHeld := hNew; clear hNew
        (try simp only [Act.put, List.setIfInBounds_toArray, List.set_cons_zero, List.set_cons_succ, List.getElem_toArray, List.getElem_cons_succ, List.getElem_cons_zero])
        refine wpAnyH_ready (rs := [7]) (by decide +kernel) (by simp) ?_
        refine AllReadyH.cons (o := _) rfl (fun K hK => ?_) AllReadyH.nil
        go_simp; go_at_call 87; refine (rdwhole_any R P (Sc (k * 5 + 2)) _ (HSc.out _ (by omega)).1 (HSc.out _ (by omega)).2 _ hrd2 (by (try simp only [List.length_append, be8_len]); omega)).mono ?_; rintro e w3 ⟨rfl, hrd3, hbc3⟩; have hbx3 := hbx2.trans hbc3; replace hx := hbc3.cell hx (by simp; omega); go_wp2_with fail
        refine hK.out _ _ (by (try dsimp only); (try exact trivial)) (fun hNew => ?_); clear hK K; clear hHeld; have hHeld := hNew; clear hNew
        (try simp only [Act.put, List.setIfInBounds_toArray, List.set_cons_zero, List.set_cons_succ, List.getElem_toArray, List.getElem_cons_succ, List.getElem_cons_zero])
        refine wpAnyH_ready (rs := [9]) (by decide +kernel) (by simp) ?_
        refine AllReadyH.cons (o := _) rfl (fun K hK => ?_) AllReadyH.nil
        go_simp; go_at_call 87; refine (rdwhole_any R P (Sc (k * 5 + 3)) _ (HSc.out _ (by omega)).1 (HSc.out _ (by omega)).2 _ hrd3 (by (try simp only [List.length_append, be8_len]); omega)).mono ?_; rintro e w4 ⟨rfl, hrd4, hbc4⟩; have hbx4 := hbx3.trans hbc4; replace hx := hbc4.cell hx (by simp; omega); go_wp2_with fail
        refine hK.out _ _ (by (try dsimp only); (try exact trivial)) (fun hNew => ?_); clear hK K; clear hHeld; have hHeld := hNew; clear hNew
        (try simp only [Act.put, List.setIfInBounds_toArray, List.set_cons_zero, List.set_cons_succ, List.getElem_toArray, List.getElem_cons_succ, List.getElem_cons_zero])
        refine wpAnyH_ready (rs := [11]) (by decide +kernel) (by simp) ?_
        refine AllReadyH.cons (o := _) rfl (fun K hK => ?_) AllReadyH.nil
        go_simp; go_at_call 87; refine (rdwhole_any R P (Sc (k * 5 + 4)) _ (HSc.out _ (by omega)).1 (HSc.out _ (by omega)).2 _ hrd4 (by (try simp only [List.length_append, be8_len]); omega)).mono ?_; rintro e w5 ⟨rfl, hrd5, hbc5⟩; have hbx5 := hbx4.trans hbc5; replace hx := hbc5.cell hx (by simp; omega); go_wp2_with fail
        refine hK.out _ _ (by (try dsimp only); (try exact trivial)) (fun hNew => ?_); clear hK K; clear hHeld; have hHeld := hNew; clear hNew
        (try simp only [Act.put, List.setIfInBounds_toArray, List.set_cons_zero, List.set_cons_succ, List.getElem_toArray, List.getElem_cons_succ, List.getElem_cons_zero])
        (refine wpAnyH_take (i := 12) (oi := _) (v := _) rfl (by decide +kernel) (by decide +kernel) (by decide +kernel) (fun _ _ _ h => h) (Or.inl ⟨by rfl, by (intro w hSw; (try dsimp only at hSw); go_simp; try with_reducible rfl)⟩) (by assumption) ?_; (try simp only [Act.put, List.setIfInBounds_toArray, List.set_cons_zero, List.set_cons_succ, List.getElem_toArray, List.getElem_cons_succ, List.getElem_cons_zero]))
        refine wpAnyH_ready (rs := [13]) (by decide +kernel) (by simp) ?_
        refine AllReadyH.cons (o := _) rfl (fun K hK => ?_) AllReadyH.nil
        go_simp; have hx := ((But.refl [] w5).alloc (.cells #[.complex .f64 (Sc (k * 5)).1 (Sc (k * 5)).2, .complex .f64 (Sc (k * 5 + 1)).1 (Sc (k * 5 + 1)).2, .complex .f64 (Sc (k * 5 + 2)).1 (Sc (k * 5 + 2)).2, .complex .f64 (Sc (k * 5 + 3)).1 (Sc (k * 5 + 3)).2, .complex .f64 (Sc (k * 5 + 4)).1 (Sc (k * 5 + 4)).2] 33)).cell hx (by simp)
        refine hK.out _ _ (by (try dsimp only); (try exact trivial)) (fun hNew => ?_); clear hK K; clear hHeld; have hHeld := hNew; clear hNew
        (try simp only [Act.put, List.setIfInBounds_toArray, List.set_cons_zero, List.set_cons_succ, List.getElem_toArray, List.getElem_cons_succ, List.getElem_cons_zero])
        refine wpAnyH_ready (rs := [14]) (by decide +kernel) (by simp) ?_
        refine AllReadyH.cons (o := _) rfl (fun K hK => ?_) AllReadyH.nil
        have hor5 : OR w5 (T + 1) 33 5 v k Sc := hor.keep hbx5 (fun g hg => by have := hvb g hg; simp; omega); refine step_append_rc _ rfl _ _ _ rfl (T + 1) 33 _ 5 80 Try.underlying26 Try.info33 rfl (by omega) v k Sc rfl (hor5.alloc _) (some ⟨w5.heap.size, 0, none⟩) w5.heap.size 0 1 1 (fun i => Sc (k * 5 + i)) rfl (fun _ => rfl) (five_rct w5 33 _ _ _ _ _ (fun i => Sc (k * 5 + i)) (HSc.out _ (by omega)).1 (HSc.out _ (by omega)).1 (HSc.out _ (by omega)).1 (HSc.out _ (by omega)).1 (HSc.out _ (by omega)).1 (HSc.out _ (by omega)).2 (HSc.out _ (by omega)).2 (HSc.out _ (by omega)).2 (HSc.out _ (by omega)).2 (HSc.out _ (by omega)).2) (by omega) (by omega) (by have := hbx5.size; simp; omega) ?_; intro v' w6 hor6 hgr hob hnn; have hbA : But v.ownBlock.toList w5 w6 := ((But.refl _ w5).alloc _).grown hgr (fun g hg => .inl (by simp [hg])); have hT6 := hbA.heap (hbx5.heap HTR.out (by simp; omega)) (fun h => by have := hvb T (by simpa using h); omega); have hrd6 := hrd5.keep hbA (fun h => by have := hvb R (by simpa using h); omega) (fun h => by have := hvb P (by simpa using h); omega); have hfr6 := blk_free (i := 1) hT6; have hx6 := (cell_of_row w6 T 1 _ _ _ hT6).trans (c := some v) rfl; obtain ⟨g', cap', rfl⟩ := or_slice hor6 (by omega)
        refine hK.out _ _ (by (try dsimp only); (try exact trivial)) (fun hNew => ?_); clear hK K; clear hHeld; have hHeld := hNew; clear hNew
        (try simp only [Act.put, List.setIfInBounds_toArray, List.set_cons_zero, List.set_cons_succ, List.getElem_toArray, List.getElem_cons_succ, List.getElem_cons_zero])
        (refine wpAnyH_take (i := 15) (oi := _) (v := _) rfl (by decide +kernel) (by decide +kernel) (by decide +kernel) (fun _ _ _ h => h) (Or.inl ⟨by rfl, by (intro w hSw; (try dsimp only at hSw); go_simp; try with_reducible rfl)⟩) (by assumption) ?_; (try simp only [Act.put, List.setIfInBounds_toArray, List.set_cons_zero, List.set_cons_succ, List.getElem_toArray, List.getElem_cons_succ, List.getElem_cons_zero]))
        refine wpAnyH_ready (rs := [16]) (by decide +kernel) (by simp) ?_
        refine AllReadyH.cons (o := _) rfl (fun K hK => ?_) AllReadyH.nil
        go_simp
        refine hK.out _ _ (by (try dsimp only); (try exact trivial)) (fun hNew => ?_); clear hK K; clear hHeld; have hHeld := hNew; clear hNew
        (try simp only [Act.put, List.setIfInBounds_toArray, List.set_cons_zero, List.set_cons_succ, List.getElem_toArray, List.getElem_cons_succ, List.getElem_cons_zero])
        refine wpAnyH_done (by decide +kernel) ?_ _
        refine NoPanic.normal ?_; (try simp only [Exit.then])
        go_wp2_with fail
        have hscT := HSC.out
        have hbS : But [T] w6 (w6.setCell ⟨T, 1, none⟩ (.slice (some ⟨g', 0, none⟩) (k + 1) cap')) := (But.refl _ _).setCell _ _ (.inl (by simp))
        refine ⟨⟨k + 1, _, by omega, by go_num, (hor6.congr (ys := Sc) (fun j hj => cat_self _ _ _)).keep hbS (fun g hg => by have := (hor6.lt g hg).1; simp; omega), by rw [blk_set _ _ _ _ _ _ hT6]; rfl, ?_, ?_⟩, by simp [intOf]; omega⟩
        · rw [show n - (k + 1) = n - k - 1 by omega, HX.out]
          exact hrd6.keep hbS (by simp; omega) (by simp; omega)
        · exact ((HBR.out.then hbx5 (fun i hi hm => by simp at hm; simp [hm])).then hbA (fun i hi hm => by have := hvb i (by simpa using hm); omega)).then hbS (fun i hi hm => by simp at hm; simp [hm])
      refine AllReadyH.cons (o := _) rfl (fun K hK => ?_) AllReadyH.nil
      go_simp; go_at_call 87; refine (rdwhole_any R P (Sc (k * 5 + 2)) _ (HSc.out _ (by omega)).1 (HSc.out _ (by omega)).2 _ hrd2 (by (try simp only [List.length_append, be8_len]); omega)).mono ?_; rintro e w3 ⟨rfl, hrd3, hbc3⟩; have hbx3 := hbx2.trans hbc3; replace hx := hbc3.cell hx (by simp; omega); go_wp2_with fail
      refine hK.out _ _ (by (try dsimp only); (try exact trivial)) (fun hNew => ?_); clear hK K; clear hHeld; have hHeld := hNew; clear hNew
      (try simp only [Act.put, List.setIfInBounds_toArray, List.set_cons_zero, List.set_cons_succ, List.getElem_toArray, List.getElem_cons_succ, List.getElem_cons_zero])
      refine wpAnyH_ready (rs := [1, 9]) (by decide +kernel) (by simp) ?_
      refine AllReadyH.cons (o := _) rfl (fun K hK => ?_) ?_
      · go_simp
        refine hK.out _ _ (by (try dsimp only); (try exact trivial)) (fun hNew => ?_); clear hK K; clear hHeld; have hHeld := hNew; clear hNew
        (try simp only [Act.put, List.setIfInBounds_toArray, List.set_cons_zero, List.set_cons_succ, List.getElem_toArray, List.getElem_cons_succ, List.getElem_cons_zero])
        refine wpAnyH_ready (rs := [9]) (by decide +kernel) (by simp) ?_
        refine AllReadyH.cons (o := _) rfl (fun K hK => ?_) AllReadyH.nil
        go_simp; go_at_call 87; refine (rdwhole_any R P (Sc (k * 5 + 3)) _ (HSc.out _ (by omega)).1 (HSc.out _ (by omega)).2 _ hrd3 (by (try simp only [List.length_append, be8_len]); omega)).mono ?_; rintro e w4 ⟨rfl, hrd4, hbc4⟩; have hbx4 := hbx3.trans hbc4; replace hx := hbc4.cell hx (by simp; omega); go_wp2_with fail
        refine hK.out _ _ (by (try dsimp only); (try exact trivial)) (fun hNew => ?_); clear hK K; clear hHeld; have hHeld := hNew; clear hNew
        (try simp only [Act.put, List.setIfInBounds_toArray, List.set_cons_zero, List.set_cons_succ, List.getElem_toArray, List.getElem_cons_succ, List.getElem_cons_zero])
        refine wpAnyH_ready (rs := [11]) (by decide +kernel) (by simp) ?_
        refine AllReadyH.cons (o := _) rfl (fun K hK => ?_) AllReadyH.nil
        go_simp; go_at_call 87; refine (rdwhole_any R P (Sc (k * 5 + 4)) _ (HSc.out _ (by omega)).1 (HSc.out _ (by omega)).2 _ hrd4 (by (try simp only [List.length_append, be8_len]); omega)).mono ?_; rintro e w5 ⟨rfl, hrd5, hbc5⟩; have hbx5 := hbx4.trans hbc5; replace hx := hbc5.cell hx (by simp; omega); go_wp2_with fail
        refine hK.out _ _ (by (try dsimp only); (try exact trivial)) (fun hNew => ?_); clear hK K; clear hHeld; have hHeld := hNew; clear hNew
        (try simp only [Act.put, List.setIfInBounds_toArray, List.set_cons_zero, List.set_cons_succ, List.getElem_toArray, List.getElem_cons_succ, List.getElem_cons_zero])
        (refine wpAnyH_take (i := 12) (oi := _) (v := _) rfl (by decide +kernel) (by decide +kernel) (by decide +kernel) (fun _ _ _ h => h) (Or.inl ⟨by rfl, by (intro w hSw; (try dsimp only at hSw); go_simp; try with_reducible rfl)⟩) (by assumption) ?_; (try simp only [Act.put, List.setIfInBounds_toArray, List.set_cons_zero, List.set_cons_succ, List.getElem_toArray, List.getElem_cons_succ, List.getElem_cons_zero]))
        refine wpAnyH_ready (rs := [13]) (by decide +kernel) (by simp) ?_
        refine AllReadyH.cons (o := _) rfl (fun K hK => ?_) AllReadyH.nil
        go_simp; have hx := ((But.refl [] w5).alloc (.cells #[.complex .f64 (Sc (k * 5)).1 (Sc (k * 5)).2, .complex .f64 (Sc (k * 5 + 1)).1 (Sc (k * 5 + 1)).2, .complex .f64 (Sc (k * 5 + 2)).1 (Sc (k * 5 + 2)).2, .complex .f64 (Sc (k * 5 + 3)).1 (Sc (k * 5 + 3)).2, .complex .f64 (Sc (k * 5 + 4)).1 (Sc (k * 5 + 4)).2] 33)).cell hx (by simp)
        refine hK.out _ _ (by (try dsimp only); (try exact trivial)) (fun hNew => ?_); clear hK K; clear hHeld; have hHeld := hNew; clear hNew
        (try simp only [Act.put, List.setIfInBounds_toArray, List.set_cons_zero, List.set_cons_succ, List.getElem_toArray, List.getElem_cons_succ, List.getElem_cons_zero])
        refine wpAnyH_ready (rs := [14]) (by decide +kernel) (by simp) ?_
        refine AllReadyH.cons (o := _) rfl (fun K hK => ?_) AllReadyH.nil
        have hor5 : OR w5 (T + 1) 33 5 v k Sc := hor.keep hbx5 (fun g hg => by have := hvb g hg; simp; omega); refine step_append_rc _ rfl _ _ _ rfl (T + 1) 33 _ 5 80 Try.underlying26 Try.info33 rfl (by omega) v k Sc rfl (hor5.alloc _) (some ⟨w5.heap.size, 0, none⟩) w5.heap.size 0 1 1 (fun i => Sc (k * 5 + i)) rfl (fun _ => rfl) (five_rct w5 33 _ _ _ _ _ (fun i => Sc (k * 5 + i)) (HSc.out _ (by omega)).1 (HSc.out _ (by omega)).1 (HSc.out _ (by omega)).1 (HSc.out _ (by omega)).1 (HSc.out _ (by omega)).1 (HSc.out _ (by omega)).2 (HSc.out _ (by omega)).2 (HSc.out _ (by omega)).2 (HSc.out _ (by omega)).2 (HSc.out _ (by omega)).2) (by omega) (by omega) (by have := hbx5.size; simp; omega) ?_; intro v' w6 hor6 hgr hob hnn; have hbA : But v.ownBlock.toList w5 w6 := ((But.refl _ w5).alloc _).grown hgr (fun g hg => .inl (by simp [hg])); have hT6 := hbA.heap (hbx5.heap HTR.out (by simp; omega)) (fun h => by have := hvb T (by simpa using h); omega); have hrd6 := hrd5.keep hbA (fun h => by have := hvb R (by simpa using h); omega) (fun h => by have := hvb P (by simpa using h); omega); have hfr6 := blk_free (i := 1) hT6; have hx6 := (cell_of_row w6 T 1 _ _ _ hT6).trans (c := some v) rfl; obtain ⟨g', cap', rfl⟩ := or_slice hor6 (by omega)
        refine hK.out _ _ (by (try dsimp only); (try exact trivial)) (fun hNew => ?_); clear hK K; clear hHeld; have hHeld := hNew; clear hNew
        (try simp only [Act.put, List.setIfInBounds_toArray, List.set_cons_zero, List.set_cons_succ, List.getElem_toArray, List.getElem_cons_succ, List.getElem_cons_zero])
        (refine wpAnyH_take (i := 15) (oi := _) (v := _) rfl (by decide +kernel) (by decide +kernel) (by decide +kernel) (fun _ _ _ h => h) (Or.inl ⟨by rfl, by (intro w hSw; (try dsimp only at hSw); go_simp; try with_reducible rfl)⟩) (by assumption) ?_; (try simp only [Act.put, List.setIfInBounds_toArray, List.set_cons_zero, List.set_cons_succ, List.getElem_toArray, List.getElem_cons_succ, List.getElem_cons_zero]))
        refine wpAnyH_ready (rs := [16]) (by decide +kernel) (by simp) ?_
        refine AllReadyH.cons (o := _) rfl (fun K hK => ?_) AllReadyH.nil
        go_simp
        refine hK.out _ _ (by (try dsimp only); (try exact trivial)) (fun hNew => ?_); clear hK K; clear hHeld; have hHeld := hNew; clear hNew
        (try simp only [Act.put, List.setIfInBounds_toArray, List.set_cons_zero, List.set_cons_succ, List.getElem_toArray, List.getElem_cons_succ, List.getElem_cons_zero])
        refine wpAnyH_done (by decide +kernel) ?_ _
        refine NoPanic.normal ?_; (try simp only [Exit.then])
        go_wp2_with fail
        have hscT := HSC.out
        have hbS : But [T] w6 (w6.setCell ⟨T, 1, none⟩ (.slice (some ⟨g', 0, none⟩) (k + 1) cap')) := (But.refl _ _).setCell _ _ (.inl (by simp))
        refine ⟨⟨k + 1, _, by omega, by go_num, (hor6.congr (ys := Sc) (fun j hj => cat_self _ _ _)).keep hbS (fun g hg => by have := (hor6.lt g hg).1; simp; omega), by rw [blk_set _ _ _ _ _ _ hT6]; rfl, ?_, ?_⟩, by simp [intOf]; omega⟩
        · rw [show n - (k + 1) = n - k - 1 by omega, HX.out]
          exact hrd6.keep hbS (by simp; omega) (by simp; omega)
        · exact ((HBR.out.then hbx5 (fun i hi hm => by simp at hm; simp [hm])).then hbA (fun i hi hm => by have := hvb i (by simpa using hm); omega)).then hbS (fun i hi hm => by simp at hm; simp [hm])
      refine AllReadyH.cons (o := _) rfl (fun K hK => ?_) AllReadyH.nil
      go_simp; go_at_call 87; refine (rdwhole_any R P (Sc (k * 5 + 3)) _ (HSc.out _ (by omega)).1 (HSc.out _ (by omega)).2 _ hrd3 (by (try simp only [List.length_append, be8_len]); omega)).mono ?_; rintro e w4 ⟨rfl, hrd4, hbc4⟩; have hbx4 := hbx3.trans hbc4; replace hx := hbc4.cell hx (by simp; omega); go_wp2_with fail
      refine hK.out _ _ (by (try dsimp only); (try exact trivial)) (fun hNew => ?_); clear hK K; clear hHeld; have hHeld := hNew; clear hNew
      (try simp only [Act.put, List.setIfInBounds_toArray, List.set_cons_zero, List.set_cons_succ, List.getElem_toArray, List.getElem_cons_succ, List.getElem_cons_zero])
      refine wpAnyH_ready (rs := [1, 11]) (by decide +kernel) (by simp) ?_
      refine AllReadyH.cons (o := _) rfl (fun K hK => ?_) ?_
      · go_simp
        refine hK.out _ _ (by (try dsimp only); (try exact trivial)) (fun hNew => ?_); clear hK K; clear hHeld; have hHeld := hNew; clear hNew
        (try simp only [Act.put, List.setIfInBounds_toArray, List.set_cons_zero, List.set_cons_succ, List.getElem_toArray, List.getElem_cons_succ, List.getElem_cons_zero])
        refine wpAnyH_ready (rs := [11]) (by decide +kernel) (by simp) ?_
        refine AllReadyH.cons (o := _) rfl (fun K hK => ?_) AllReadyH.nil
        go_simp; go_at_call 87; refine (rdwhole_any R P (Sc (k * 5 + 4)) _ (HSc.out _ (by omega)).1 (HSc.out _ (by omega)).2 _ hrd4 (by (try simp only [List.length_append, be8_len]); omega)).mono ?_; rintro e w5 ⟨rfl, hrd5, hbc5⟩; have hbx5 := hbx4.trans hbc5; replace hx := hbc5.cell hx (by simp; omega); go_wp2_with fail
        refine hK.out _ _ (by (try dsimp only); (try exact trivial)) (fun hNew => ?_); clear hK K; clear hHeld; have hHeld := hNew; clear hNew
        (try simp only [Act.put, List.setIfInBounds_toArray, List.set_cons_zero, List.set_cons_succ, List.getElem_toArray, List.getElem_cons_succ, List.getElem_cons_zero])
        (refine wpAnyH_take (i := 12) (oi := _) (v := _) rfl (by decide +kernel) (by decide +kernel) (by decide +kernel) (fun _ _ _ h => h) (Or.inl ⟨by rfl, by (intro w hSw; (try dsimp only at hSw); go_simp; try with_reducible rfl)⟩) (by assumption) ?_; (try simp only [Act.put, List.setIfInBounds_toArray, List.set_cons_zero, List.set_cons_succ, List.getElem_toArray, List.getElem_cons_succ, List.getElem_cons_zero]))
        refine wpAnyH_ready (rs := [13]) (by decide +kernel) (by simp) ?_
        refine AllReadyH.cons (o := _) rfl (fun K hK => ?_) AllReadyH.nil
        go_simp; have hx := ((But.refl [] w5).alloc (.cells #[.complex .f64 (Sc (k * 5)).1 (Sc (k * 5)).2, .complex .f64 (Sc (k * 5 + 1)).1 (Sc (k * 5 + 1)).2, .complex .f64 (Sc (k * 5 + 2)).1 (Sc (k * 5 + 2)).2, .complex .f64 (Sc (k * 5 + 3)).1 (Sc (k * 5 + 3)).2, .complex .f64 (Sc (k * 5 + 4)).1 (Sc (k * 5 + 4)).2] 33)).cell hx (by simp)
        refine hK.out _ _ (by (try dsimp only); (try exact trivial)) (fun hNew => ?_); clear hK K; clear hHeld; have hHeld := hNew; clear hNew
        (try simp only [Act.put, List.setIfInBounds_toArray, List.set_cons_zero, List.set_cons_succ, List.getElem_toArray, List.getElem_cons_succ, List.getElem_cons_zero])
        refine wpAnyH_ready (rs := [14]) (by decide +kernel) (by simp) ?_
        refine AllReadyH.cons (o := _) rfl (fun K hK => ?_) AllReadyH.nil
        have hor5 : OR w5 (T + 1) 33 5 v k Sc := hor.keep hbx5 (fun g hg => by have := hvb g hg; simp; omega); refine step_append_rc _ rfl _ _ _ rfl (T + 1) 33 _ 5 80 Try.underlying26 Try.info33 rfl (by omega) v k Sc rfl (hor5.alloc _) (some ⟨w5.heap.size, 0, none⟩) w5.heap.size 0 1 1 (fun i => Sc (k * 5 + i)) rfl (fun _ => rfl) (five_rct w5 33 _ _ _ _ _ (fun i => Sc (k * 5 + i)) (HSc.out _ (by omega)).1 (HSc.out _ (by omega)).1 (HSc.out _ (by omega)).1 (HSc.out _ (by omega)).1 (HSc.out _ (by omega)).1 (HSc.out _ (by omega)).2 (HSc.out _ (by omega)).2 (HSc.out _ (by omega)).2 (HSc.out _ (by omega)).2 (HSc.out _ (by omega)).2) (by omega) (by omega) (by have := hbx5.size; simp; omega) ?_; intro v' w6 hor6 hgr hob hnn; have hbA : But v.ownBlock.toList w5 w6 := ((But.refl _ w5).alloc _).grown hgr (fun g hg => .inl (by simp [hg])); have hT6 := hbA.heap (hbx5.heap HTR.out (by simp; omega)) (fun h => by have := hvb T (by simpa using h); omega); have hrd6 := hrd5.keep hbA (fun h => by have := hvb R (by simpa using h); omega) (fun h => by have := hvb P (by simpa using h); omega); have hfr6 := blk_free (i := 1) hT6; have hx6 := (cell_of_row w6 T 1 _ _ _ hT6).trans (c := some v) rfl; obtain ⟨g', cap', rfl⟩ := or_slice hor6 (by omega)
        refine hK.out _ _ (by (try dsimp only); (try exact trivial)) (fun hNew => ?_); clear hK K; clear hHeld; have hHeld := hNew; clear hNew
        (try simp only [Act.put, List.setIfInBounds_toArray, List.set_cons_zero, List.set_cons_succ, List.getElem_toArray, List.getElem_cons_succ, List.getElem_cons_zero])
        (refine wpAnyH_take (i := 15) (oi := _) (v := _) rfl (by decide +kernel) (by decide +kernel) (by decide +kernel) (fun _ _ _ h => h) (Or.inl ⟨by rfl, by (intro w hSw; (try dsimp only at hSw); go_simp; try with_reducible rfl)⟩) (by assumption) ?_; (try simp only [Act.put, List.setIfInBounds_toArray, List.set_cons_zero, List.set_cons_succ, List.getElem_toArray, List.getElem_cons_succ, List.getElem_cons_zero]))
        refine wpAnyH_ready (rs := [16]) (by decide +kernel) (by simp) ?_
        refine AllReadyH.cons (o := _) rfl (fun K hK => ?_) AllReadyH.nil
        go_simp
        refine hK.out _ _ (by (try dsimp only); (try exact trivial)) (fun hNew => ?_); clear hK K; clear hHeld; have hHeld := hNew; clear hNew
        (try simp only [Act.put, List.setIfInBounds_toArray, List.set_cons_zero, List.set_cons_succ, List.getElem_toArray, List.getElem_cons_succ, List.getElem_cons_zero])
        refine wpAnyH_done (by decide +kernel) ?_ _
        refine NoPanic.normal ?_; (try simp only [Exit.then])
        go_wp2_with fail
        have hscT := HSC.out
        have hbS : But [T] w6 (w6.setCell ⟨T, 1, none⟩ (.slice (some ⟨g', 0, none⟩) (k + 1) cap')) := (But.refl _ _).setCell _ _ (.inl (by simp))
        refine ⟨⟨k + 1, _, by omega, by go_num, (hor6.congr (ys := Sc) (fun j hj => cat_self _ _ _)).keep hbS (fun g hg => by have := (hor6.lt g hg).1; simp; omega), by rw [blk_set _ _ _ _ _ _ hT6]; rfl, ?_, ?_⟩, by simp [intOf]; omega⟩
        · rw [show n - (k + 1) = n - k - 1 by omega, HX.out]
          exact hrd6.keep hbS (by simp; omega) (by simp; omega)
        · exact ((HBR.out.then hbx5 (fun i hi hm => by simp at hm; simp [hm])).then hbA (fun i hi hm => by have := hvb i (by simpa using hm); omega)).then hbS (fun i hi hm => by simp at hm; simp [hm])
      refine AllReadyH.cons (o := _) rfl (fun K hK => ?_) AllReadyH.nil
      go_simp; go_at_call 87; refine (rdwhole_any R P (Sc (k * 5 + 4)) _ (HSc.out _ (by omega)).1 (HSc.out _ (by omega)).2 _ hrd4 (by (try simp only [List.length_append, be8_len]); omega)).mono ?_; rintro e w5 ⟨rfl, hrd5, hbc5⟩; have hbx5 := hbx4.trans hbc5; replace hx := hbc5.cell hx (by simp; omega); go_wp2_with fail
      refine hK.out _ _ (by (try dsimp only); (try exact trivial)) (fun hNew => ?_); clear hK K; clear hHeld; have hHeld := hNew; clear hNew
      (try simp only [Act.put, List.setIfInBounds_toArray, List.set_cons_zero, List.set_cons_succ, List.getElem_toArray, List.getElem_cons_succ, List.getElem_cons_zero])
      (refine wpAnyH_take (i := 12) (oi := _) (v := _) rfl (by decide +kernel) (by decide +kernel) (by decide +kernel) (fun _ _ _ h => h) (Or.inl ⟨by rfl, by (intro w hSw; (try dsimp only at hSw); go_simp; try with_reducible rfl)⟩) (by assumption) ?_; (try simp only [Act.put, List.setIfInBounds_toArray, List.set_cons_zero, List.set_cons_succ, List.getElem_toArray, List.getElem_cons_succ, List.getElem_cons_zero]))
      refine wpAnyH_ready (rs := [1, 13]) (by decide +kernel) (by simp) ?_
      refine AllReadyH.cons (o := _) rfl (fun K hK => ?_) ?_
      · go_simp
        refine hK.out _ _ (by (try dsimp only); (try exact trivial)) (fun hNew => ?_); clear hK K; clear hHeld; have hHeld := hNew; clear hNew
        (try simp only [Act.put, List.setIfInBounds_toArray, List.set_cons_zero, List.set_cons_succ, List.getElem_toArray, List.getElem_cons_succ, List.getElem_cons_zero])
        refine wpAnyH_ready (rs := [13]) (by decide +kernel) (by simp) ?_
        refine AllReadyH.cons (o := _) rfl (fun K hK => ?_) AllReadyH.nil
        go_simp; have hx := ((But.refl [] w5).alloc (.cells #[.complex .f64 (Sc (k * 5)).1 (Sc (k * 5)).2, .complex .f64 (Sc (k * 5 + 1)).1 (Sc (k * 5 + 1)).2, .complex .f64 (Sc (k * 5 + 2)).1 (Sc (k * 5 + 2)).2, .complex .f64 (Sc (k * 5 + 3)).1 (Sc (k * 5 + 3)).2, .complex .f64 (Sc (k * 5 + 4)).1 (Sc (k * 5 + 4)).2] 33)).cell hx (by simp)
        refine hK.out _ _ (by (try dsimp only); (try exact trivial)) (fun hNew => ?_); clear hK K; clear hHeld; have hHeld := hNew; clear hNew
        (try simp only [Act.put, List.setIfInBounds_toArray, List.set_cons_zero, List.set_cons_succ, List.getElem_toArray, List.getElem_cons_succ, List.getElem_cons_zero])
        refine wpAnyH_ready (rs := [14]) (by decide +kernel) (by simp) ?_
        refine AllReadyH.cons (o := _) rfl (fun K hK => ?_) AllReadyH.nil
        have hor5 : OR w5 (T + 1) 33 5 v k Sc := hor.keep hbx5 (fun g hg => by have := hvb g hg; simp; omega); refine step_append_rc _ rfl _ _ _ rfl (T + 1) 33 _ 5 80 Try.underlying26 Try.info33 rfl (by omega) v k Sc rfl (hor5.alloc _) (some ⟨w5.heap.size, 0, none⟩) w5.heap.size 0 1 1 (fun i => Sc (k * 5 + i)) rfl (fun _ => rfl) (five_rct w5 33 _ _ _ _ _ (fun i => Sc (k * 5 + i)) (HSc.out _ (by omega)).1 (HSc.out _ (by omega)).1 (HSc.out _ (by omega)).1 (HSc.out _ (by omega)).1 (HSc.out _ (by omega)).1 (HSc.out _ (by omega)).2 (HSc.out _ (by omega)).2 (HSc.out _ (by omega)).2 (HSc.out _ (by omega)).2 (HSc.out _ (by omega)).2) (by omega) (by omega) (by have := hbx5.size; simp; omega) ?_; intro v' w6 hor6 hgr hob hnn; have hbA : But v.ownBlock.toList w5 w6 := ((But.refl _ w5).alloc _).grown hgr (fun g hg => .inl (by simp [hg])); have hT6 := hbA.heap (hbx5.heap HTR.out (by simp; omega)) (fun h => by have := hvb T (by simpa using h); omega); have hrd6 := hrd5.keep hbA (fun h => by have := hvb R (by simpa using h); omega) (fun h => by have := hvb P (by simpa using h); omega); have hfr6 := blk_free (i := 1) hT6; have hx6 := (cell_of_row w6 T 1 _ _ _ hT6).trans (c := some v) rfl; obtain ⟨g', cap', rfl⟩ := or_slice hor6 (by omega)
        refine hK.out _ _ (by (try dsimp only); (try exact trivial)) (fun hNew => ?_); clear hK K; clear hHeld; have hHeld := hNew; clear hNew
        (try simp only [Act.put, List.setIfInBounds_toArray, List.set_cons_zero, List.set_cons_succ, List.getElem_toArray, List.getElem_cons_succ, List.getElem_cons_zero])
        (refine wpAnyH_take (i := 15) (oi := _) (v := _) rfl (by decide +kernel) (by decide +kernel) (by decide +kernel) (fun _ _ _ h => h) (Or.inl ⟨by rfl, by (intro w hSw; (try dsimp only at hSw); go_simp; try with_reducible rfl)⟩) (by assumption) ?_; (try simp only [Act.put, List.setIfInBounds_toArray, List.set_cons_zero, List.set_cons_succ, List.getElem_toArray, List.getElem_cons_succ, List.getElem_cons_zero]))
        refine wpAnyH_ready (rs := [16]) (by decide +kernel) (by simp) ?_
        refine AllReadyH.cons (o := _) rfl (fun K hK => ?_) AllReadyH.nil
        go_simp
        refine hK.out _ _ (by (try dsimp only); (try exact trivial)) (fun hNew => ?_); clear hK K; clear hHeld; have hHeld := hNew; clear hNew
        (try simp only [Act.put, List.setIfInBounds_toArray, List.set_cons_zero, List.set_cons_succ, List.getElem_toArray, List.getElem_cons_succ, List.getElem_cons_zero])
        refine wpAnyH_done (by decide +kernel) ?_ _
        refine NoPanic.normal ?_; (try simp only [Exit.then])
        go_wp2_with fail
        have hscT := HSC.out
        have hbS : But [T] w6 (w6.setCell ⟨T, 1, none⟩ (.slice (some ⟨g', 0, none⟩) (k + 1) cap')) := (But.refl _ _).setCell _ _ (.inl (by simp))
        refine ⟨⟨k + 1, _, by omega, by go_num, (hor6.congr (ys := Sc) (fun j hj => cat_self _ _ _)).keep hbS (fun g hg => by have := (hor6.lt g hg).1; simp; omega), by rw [blk_set _ _ _ _ _ _ hT6]; rfl, ?_, ?_⟩, by simp [intOf]; omega⟩
        · rw [show n - (k + 1) = n - k - 1 by omega, HX.out]
          exact hrd6.keep hbS (by simp; omega) (by simp; omega)
        · exact ((HBR.out.then hbx5 (fun i hi hm => by simp at hm; simp [hm])).then hbA (fun i hi hm => by have := hvb i (by simpa using hm); omega)).then hbS (fun i hi hm => by simp at hm; simp [hm])
      refine AllReadyH.cons (o := _) rfl (fun K hK => ?_) AllReadyH.nil
      go_simp; have hx := ((But.refl [] w5).alloc (.cells #[.complex .f64 (Sc (k * 5)).1 (Sc (k * 5)).2, .complex .f64 (Sc (k * 5 + 1)).1 (Sc (k * 5 + 1)).2, .complex .f64 (Sc (k * 5 + 2)).1 (Sc (k * 5 + 2)).2, .complex .f64 (Sc (k * 5 + 3)).1 (Sc (k * 5 + 3)).2, .complex .f64 (Sc (k * 5 + 4)).1 (Sc (k * 5 + 4)).2] 33)).cell hx (by simp)
      refine hK.out _ _ (by (try dsimp only); (try exact trivial)) (fun hNew => ?_); clear hK K; clear hHeld; have hHeld := hNew; clear hNew
      (try simp only [Act.put, List.setIfInBounds_toArray, List.set_cons_zero, List.set_cons_succ, List.getElem_toArray, List.getElem_cons_succ, List.getElem_cons_zero])
      refine wpAnyH_ready (rs := [1]) (by decide +kernel) (by simp) ?_
      refine AllReadyH.cons (o := _) rfl (fun K hK => ?_) AllReadyH.nil
      go_simp
      refine hK.out _ _ (by (try dsimp only); (try exact trivial)) (fun hNew => ?_); clear hK K; clear hHeld; have hHeld := hNew; clear hNew
      (try simp only [Act.put, List.setIfInBounds_toArray, List.set_cons_zero, List.set_cons_succ, List.getElem_toArray, List.getElem_cons_succ, List.getElem_cons_zero])
      refine wpAnyH_ready (rs := [14]) (by decide +kernel) (by simp) ?_
      refine AllReadyH.cons (o := _) rfl (fun K hK => ?_) AllReadyH.nil
      have hor5 : OR w5 (T + 1) 33 5 v k Sc := hor.keep hbx5 (fun g hg => by have := hvb g hg; simp; omega); refine step_append_rc _ rfl _ _ _ rfl (T + 1) 33 _ 5 80 Try.underlying26 Try.info33 rfl (by omega) v k Sc rfl (hor5.alloc _) (some ⟨w5.heap.size, 0, none⟩) w5.heap.size 0 1 1 (fun i => Sc (k * 5 + i)) rfl (fun _ => rfl) (five_rct w5 33 _ _ _ _ _ (fun i => Sc (k * 5 + i)) (HSc.out _ (by omega)).1 (HSc.out _ (by omega)).1 (HSc.out _ (by omega)).1 (HSc.out _ (by omega)).1 (HSc.out _ (by omega)).1 (HSc.out _ (by omega)).2 (HSc.out _ (by omega)).2 (HSc.out _ (by omega)).2 (HSc.out _ (by omega)).2 (HSc.out _ (by omega)).2) (by omega) (by omega) (by have := hbx5.size; simp; omega) ?_; intro v' w6 hor6 hgr hob hnn; have hbA : But v.ownBlock.toList w5 w6 := ((But.refl _ w5).alloc _).grown hgr (fun g hg => .inl (by simp [hg])); have hT6 := hbA.heap (hbx5.heap HTR.out (by simp; omega)) (fun h => by have := hvb T (by simpa using h); omega); have hrd6 := hrd5.keep hbA (fun h => by have := hvb R (by simpa using h); omega) (fun h => by have := hvb P (by simpa using h); omega); have hfr6 := blk_free (i := 1) hT6; have hx6 := (cell_of_row w6 T 1 _ _ _ hT6).trans (c := some v) rfl; obtain ⟨g', cap', rfl⟩ := or_slice hor6 (by omega)
      refine hK.out _ _ (by (try dsimp only); (try exact trivial)) (fun hNew => ?_); clear hK K; clear hHeld; have hHeld := hNew; clear hNew
      (try simp only [Act.put, List.setIfInBounds_toArray, List.set_cons_zero, List.set_cons_succ, List.getElem_toArray, List.getElem_cons_succ, List.getElem_cons_zero])
      (refine wpAnyH_take (i := 15) (oi := _) (v := _) rfl (by decide +kernel) (by decide +kernel) (by decide +kernel) (fun _ _ _ h => h) (Or.inl ⟨by rfl, by (intro w hSw; (try dsimp only at hSw); go_simp; try with_reducible rfl)⟩) (by assumption) ?_; (try simp only [Act.put, List.setIfInBounds_toArray, List.set_cons_zero, List.set_cons_succ, List.getElem_toArray, List.getElem_cons_succ, List.getElem_cons_zero]))
      refine wpAnyH_ready (rs := [16]) (by decide +kernel) (by simp) ?_
      refine AllReadyH.cons (o := _) rfl (fun K hK => ?_) AllReadyH.nil
      go_simp
      refine hK.out _ _ (by (try dsimp only); (try exact trivial)) (fun hNew => ?_); clear hK K; clear hHeld; have hHeld := hNew; clear hNew
      (try simp only [Act.put, List.setIfInBounds_toArray, List.set_cons_zero, List.set_cons_succ, List.getElem_toArray, List.getElem_cons_succ, List.getElem_cons_zero])
      refine wpAnyH_done (by decide +kernel) ?_ _
      refine NoPanic.normal ?_; (try simp only [Exit.then])
      go_wp2_with fail
      have hscT := HSC.out
      have hbS : But [T] w6 (w6.setCell ⟨T, 1, none⟩ (.slice (some ⟨g', 0, none⟩) (k + 1) cap')) := (But.refl _ _).setCell _ _ (.inl (by simp))
      refine ⟨⟨k + 1, _, by omega, by go_num, (hor6.congr (ys := Sc) (fun j hj => cat_self _ _ _)).keep hbS (fun g hg => by have := (hor6.lt g hg).1; simp; omega), by rw [blk_set _ _ _ _ _ _ hT6]; rfl, ?_, ?_⟩, by simp [intOf]; omega⟩
      · rw [show n - (k + 1) = n - k - 1 by omega, HX.out]
        exact hrd6.keep hbS (by simp; omega) (by simp; omega)
      · exact ((HBR.out.then hbx5 (fun i hi hm => by simp at hm; simp [hm])).then hbA (fun i hi hm => by have := hvb i (by simpa using hm); omega)).then hbS (fun i hi hm => by simp at hm; simp [hm])
    · obtain rfl : n = k := by omega
      have hrd' := hrd
      rw [Nat.sub_self, show secf Sc n 0 = [] from rfl, List.nil_append, ← HREST.out] at hrd'
      have hwr : But [] w wr := hwbc.then hbr (fun i hi hm => by have h1 := HRL.out; simp at hm; omega)
      have hmk : ∀ W : World, (Instr.makeSlice 50 (.int .i64 (n : Int)) (.int .i64 (n : Int))).run Try.prog W = .ok (.slice (some ⟨W.heap.size, 0, none⟩) n n) (W.alloc (.cells (madeCells #[.complex .f64 0 0, .complex .f64 0 0] (n * 2)) 71)) := by
        intro W
        obtain ⟨i, hi, hz, hs, hby⟩ := info_parts Try.info71
        have hr := run_make (P := Try.prog) W 50 71 i _ Try.underlying50 hi hz .i64 .i64 n n (by omega) (Int.le_refl _) (by rw [hby]; omega) (by omega)
        rw [hs] at hr
        exact hr
      have HGr := Lib.hid (hbr.heap HGC.out (by have := HRL.out; simp; omega))
      have HTR := Lib.hid hTr
      clear hTc hRDc hbr hrd hTr hlt hk
      go_wp2_with fail
      refine (rdnumber_any R P at_ _ hat _ hrd' (by simp only [List.length_append, be8_len, staf_len]; omega)).mono ?_
      rintro e w1 ⟨rfl, hrd1, hb1⟩
      go_wp2_with fail
      refine (rdnumber_any R P ch _ hch _ hrd1 (by simp only [staf_len]; omega)).mono ?_
      rintro e w2 ⟨rfl, hrd2, hb2⟩
      have hbR := hb1.trans hb2
      have hw2 : But [] w w2 := hwr.then hbR (fun i hi hm => by have h1 := HRL.out; simp at hm; omega)
      have hT2 := hbR.heap HTR.out (by simp; omega)
      have hG2 := hbR.heap HGr.out (by have := HRL.out; simp; omega)
      have hor2 := hor.keep hbR (fun g hg => by have := hvb g hg; simp; omega)
      have hs2 := hbR.size
      obtain ⟨hPR, o, cp, hRb, hRc, hRl⟩ := hrd2
      have y1 : w2.cell? ⟨R, 1, none⟩ = some (.bool false) := by rw [cell_of_row w2 R 1 _ _ _ hRb]; rfl
      have y2 := blk_free (i := 1) hRb
      obtain ⟨w3, hw3, hb3, hrd3⟩ : ∃ w3, w2.setCell ⟨R, 1, none⟩ (.bool false) = w3 ∧ But [R] w2 w3 ∧ RD w3 R P (staf St 0 n) := by
        refine ⟨_, rfl, (But.refl _ _).setCell _ _ (.inl (by simp)), hPR, o, cp, by rw [blk_set _ _ _ _ _ _ hRb]; rfl, hRc, fun j x hj => ?_⟩
        rw [World.cell?_setCell_far _ _ _ _ (fun e => hPR (by simpa using e.symm))]
        exact hRl j x hj
      have hw3' : But [] w w3 := hw2.then hb3 (fun i hi hm => by have h1 := HRL.out; simp at hm; omega)
      have hT3 := hb3.heap hT2 (by simp; omega)
      have hG3 := hb3.heap hG2 (by have := HRL.out; simp; omega)
      have hor3 := hor2.keep hb3 (fun g hg => by have := hvb g hg; simp; omega)
      have hs3 := hb3.size
      have HL2 := Lib.hid hRl
      clear hRb hRl hb1 hb2 hrd1 hrd' hor hor2 hT2 hG2
      go_wp2_with fail
      obtain ⟨w4, hw4, hb4, hoc4, hs4⟩ : ∃ w4, w3.alloc (.cells (madeCells #[.complex .f64 0 0, .complex .f64 0 0] (n * 2)) 71) = w4 ∧ But [] w3 w4 ∧ OC w4 w3.heap.size 71 (n * 2) (fun _ => Z0) ∧ w4.heap.size = w3.heap.size + 1 := ⟨_, rfl, (But.refl _ _).alloc _, zeros_oc w3 71 (n * 2) (.inr rfl), by simp⟩
      rw [hw4]
      obtain ⟨q, hq⟩ : ∃ q, w3.heap.size = q := ⟨_, rfl⟩
      have hw4' := hw3'.trans hb4
      have hT4 := hb4.heap hT3 (by simp)
      have hG4 := hb4.heap hG3 (by simp)
      have hor4 := hor3.keep hb4 (fun g hg => by simp)
      have hrd4 := hrd3.keep hb4 (by simp) (by simp)
      have hTq : T < q := by omega
      have hvq : ∀ g, v.ownBlock = some g → g < q := fun g hg => by have := (hor3.lt g hg).2; omega
      rw [hq] at hoc4 hs4 ⊢
      have HS4 := Lib.hid hs4
      have HT4 := Lib.hid hT4
      have HG4 := Lib.hid hG4
      clear hw3 hw4 hq hs4 hT3 hG3 hor3 hrd3 hT4 hG4 y1 y2 hmk hs2 hs3 hb3 hb4 hw3' hw2 hwr
      go_loopw [107] (fun i wr => ∃ k : Nat, k ≤ n ∧ i = .int .i64 k ∧ OC wr q 71 (n * 2) (fun j => if j < k * 2 then St j else Z0) ∧ RD wr R P (staf St k (n - k)) ∧ But [R, q] w4 wr) (fun i _ => n - (intOf i).toNat)
      case atStart => exact ⟨0, Nat.zero_le _, rfl, hoc4.congr (fun j hj => by simp), by simpa using hrd4, But.refl _ _⟩
      case round =>
        obtain ⟨k, hk, rfl, hoc, hrd, hbr⟩ := hrel
        by_cases hlt : k < n
        · rw [show n - k = (n - k - 1) + 1 by omega, staf_two] at hrd
          obtain ⟨X, hX, hXl⟩ : ∃ X, staf St (k + 1) (n - k - 1) = X ∧ X.length ≤ 3000 := ⟨_, rfl, by simp only [staf_len]; omega⟩
          rw [hX] at hrd
          have HX := Lib.hid hX
          have t9 : (k : Int) < n := by omega
          have hw0 := HSt.out (k * 2) (by omega)
          have hw1 := HSt.out (k * 2 + 1) (by omega)
          clear hX
          go_wp2_with fail
          refine (rdwhole_any R P (St (k * 2)) _ hw0.1 hw0.2 _ hrd (by (try simp only [List.length_append, be8_len]); omega)).mono ?_
          rintro e w5 ⟨rfl, hrd5, hb5⟩
          have hoc5 := hoc.keep hb5 (by simp; omega)
          obtain ⟨z0, z1, ⟨b0, b1⟩, _⟩ := hoc5.two k hlt
          have hfr0 := hoc5.free (k * 2)
          obtain ⟨w6, hw6, hb6, hoc6⟩ : ∃ w6, w5.setCell ⟨q, k * 2, none⟩ (.complex .f64 (St (k * 2)).1 (St (k * 2)).2) = w6 ∧ But [q] w5 w6 ∧ OC w6 q 71 (n * 2) (fun j => if j = k * 2 then St (k * 2) else if j < k * 2 then St j else Z0) := ⟨_, rfl, (But.refl _ _).setCell _ _ (.inl (by simp)), hoc5.set_ (k * 2) hw0.1 hw0.2⟩
          have hrd6 := hrd5.keep hb6 (by simp; omega) (by simp; omega)
          go_wp2_with fail
          refine (rdwhole_any R P (St (k * 2 + 1)) _ hw1.1 hw1.2 _ hrd6 (by omega)).mono ?_
          rintro e w7 ⟨rfl, hrd7, hb7⟩
          have hoc7 := hoc6.keep hb7 (by simp; omega)
          obtain ⟨z2, z3, ⟨b2, b3⟩, _⟩ := hoc7.two k hlt
          have hfr1 := hoc7.free (k * 2 + 1)
          go_wp2_with fail
          have hb8 : But [q] w7 (w7.setCell ⟨q, k * 2 + 1, none⟩ (.complex .f64 (St (k * 2 + 1)).1 (St (k * 2 + 1)).2)) := (But.refl _ _).setCell _ _ (.inl (by simp))
          refine ⟨⟨k + 1, by omega, by go_num, (hoc7.set_ (k * 2 + 1) hw1.1 hw1.2).congr (fun j hj => ?_), ?_, ?_⟩, by simp [intOf]; omega⟩
          · by_cases h1 : j = k * 2 + 1
            · subst h1; rw [if_pos rfl, if_pos (by omega)]
            · rw [if_neg h1]
              by_cases h2 : j = k * 2
              · subst h2; rw [if_pos rfl, if_pos (by omega)]
              · rw [if_neg h2]
                by_cases h3 : j < k * 2
                · rw [if_pos h3, if_pos (by omega)]
                · rw [if_neg h3, if_neg (by omega)]
          · rw [show n - (k + 1) = n - k - 1 by omega, HX.out]
            exact hrd7.keep hb8 (by simp; omega) (by simp; omega)
          · exact (((hbr.then hb5 (fun i hi hm => by simp at hm; simp [hm])).then hb6 (fun i hi hm => by simp at hm; simp [hm])).then hb7 (fun i hi hm => by simp at hm; simp [hm])).then hb8 (fun i hi hm => by simp at hm; simp [hm])
        · obtain rfl : n = k := by omega
          have hoc' := hoc.congr (ys := St) (fun j hj => by rw [if_pos hj])
          obtain ⟨hPR, o, cp, hRb, hRc, hRl⟩ := hrd
          have y1 : wr.cell? ⟨R, 1, none⟩ = some (.bool false) := by rw [cell_of_row wr R 1 _ _ _ hRb]; rfl
          have hTr := hbr.heap HT4.out (by simp; omega)
          have hGr := hbr.heap HG4.out (by have := HRL.out; simp; omega)
          have hor5 := hor4.keep hbr (fun g hg => by have h1 := hvb g hg; have h2 := hvq g hg; simp; omega)
          have hwq := hbr.size
          have hwr : But [] w wr := hw4'.then hbr (fun i hi hm => by have h1 := HRL.out; simp at hm; omega)
          have x0 : wr.cell? ⟨T, 0, none⟩ = some (.complex .f64 g.1 g.2) := by rw [cell_of_row wr T 0 _ _ _ hTr]; rfl
          have x1 : wr.cell? ⟨T, 1, none⟩ = some v := by rw [cell_of_row wr T 1 _ _ _ hTr]; rfl
          have g0 : wr.cell? ⟨w.heap.size, 0, none⟩ = some (.bool f) := by rw [cell_of_row wr w.heap.size 0 _ _ _ hGr]; rfl
          have g1 : wr.cell? ⟨w.heap.size, 1, none⟩ = some (.bool c) := by rw [cell_of_row wr w.heap.size 1 _ _ _ hGr]; rfl
          have g2 : wr.cell? ⟨w.heap.size, 2, none⟩ = some (.bool m) := by rw [cell_of_row wr w.heap.size 2 _ _ _ hGr]; rfl
          have hs4 := HS4.out
          have hqs : q < wr.heap.size := by omega
          clear hRb hRl hTr hGr hlt hk hoc hoc4 hrd4 hor4 hs4
          obtain ⟨A, fb, fk, rfl, hAK, hrcS⟩ : ∃ A fb fk, v = .slice A n fk ∧ ((A = none ∧ n = 0 ∧ fk = 0) ∨ (∃ a, A = some a ∧ (0 < n → a = ⟨fb, 0, none⟩))) ∧ RC wr fb 0 (n * 5) Sc := by
            rcases hor5.form with ⟨rfl, h0⟩ | ⟨g', cap', rfl, _, _, hoc9⟩
            · subst h0
              exact ⟨none, 0, 0, rfl, .inl ⟨rfl, rfl, rfl⟩, fun j hj => by simp at hj⟩
            · exact ⟨_, g', cap', rfl, .inr ⟨_, rfl, fun _ => rfl⟩, hoc9.rc⟩
          clear hor5 hvb hvq
          have HAK := Lib.hid hAK
          clear hAK
          go_wp2_with fail
          refine (sbegin_any g g n fb 0 fk A f c m Sc wr hg.2 hg.1 hgf n16 HAK.out hrcS Hfin.out).mono ?_
          rintro e w5 ⟨d, p, q0, rfl, hd, hp, hq0, hst, hb5⟩
          obtain ⟨_, ⟨gr, k1, k2, hbk, hgw, hgc⟩, hsec, hsta, hpl, ndp, ndq, npq⟩ := hst
          have x5 : w5.cell? ⟨d, 5, none⟩ = some (.slice (some ⟨q0, 0, none⟩) n k2) := by rw [cell_of_row w5 d 5 _ _ _ hbk]; rfl
          have x6 : w5.cell? ⟨d, 6, none⟩ = some (.int .u64 0) := by rw [cell_of_row w5 d 6 _ _ _ hbk]; rfl
          have x7 : w5.cell? ⟨d, 7, none⟩ = some (.int .u64 0) := by rw [cell_of_row w5 d 7 _ _ _ hbk]; rfl
          have z5 := blk_free (i := 5) hbk
          have z6 := blk_free (i := 6) hbk
          have z7 := blk_free (i := 7) hbk
          have HBK := Lib.hid hbk
          have HGC9 := Lib.hid hgc
          clear hbk hgc
          go_wp2_with fail
          go_ret2
          have hwz := hwr.size
          have hb6 : But [d] w5 (((w5.setCell ⟨d, 5, none⟩ (.slice (some ⟨q, 0, none⟩) n n)).setCell ⟨d, 6, none⟩ (.int .u64 (at_ : Int))).setCell ⟨d, 7, none⟩ (.int .u64 (ch : Int))) := (((But.refl _ _).setCell _ _ (.inl (by simp))).setCell _ _ (.inl (by simp))).setCell _ _ (.inl (by simp))
          have hs6 := hb6.size
          refine ⟨d, p, q, rfl, by omega, by omega, by omega, ⟨n16, ⟨gr, k1, n, ?_, hgw, HGC9.out⟩, hsec.keep hb6 (by simp; omega), (hoc'.keep hb5 (by simp)).keep hb6 (by simp; omega), by omega, ndp, by omega, by omega⟩, ?_⟩
          · rw [blk_set _ _ _ _ _ _ (blk_set _ _ _ _ _ _ (blk_set _ _ _ _ _ _ HBK.out))]; rfl
          · exact (hwr.trans hb5).then hb6 (fun i hi hm => by simp at hm; omega)
end Go.Proofs.Ytnmpofjegepmaaa
