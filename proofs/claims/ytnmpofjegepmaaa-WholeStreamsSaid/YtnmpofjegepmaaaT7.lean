/- (*Stream).Save. -/
import Derived.Test.YtnmpofjegepmaaaT6
import Derived.Deep.QuietTactic
import Derived.BigQuiet
import Derived.Lib.SlBytesConst
namespace Go.Proofs.Ytnmpofjegepmaaa
open Go.RowKit Go.Proofs.Ytnmpofjegepmaaa.Fl Go.Proofs.Ytnmpofjegepmaaa.Pt

/-- The flags as a number, as far as j of them are written. -/
def flg (f c m : Bool) (j : Nat) : Nat := (if f && decide (0 < j) then 1 else 0) + (if c && decide (1 < j) then 2 else 0) + (if m && decide (2 < j) then 4 else 0)
theorem flg_lt (f c m : Bool) (j : Nat) : flg f c m j ≤ 7 := by unfold flg; split <;> split <;> split <;> omega
def hdr (f c m : Bool) (n : Nat) : List Nat := [81, 86, 83, 49] ++ [flg f c m 3, n]
/-- Sections' and states' bytes. -/
def secb (Sc : Nat → C) : Nat → List Nat
  | 0 => []
  | k + 1 => secb Sc k ++ pbs (fun i => Sc (k * 5 + i)) 5
def stab (St : Nat → C) : Nat → List Nat
  | 0 => []
  | k + 1 => stab St k ++ pbs (fun i => St (k * 2 + i)) 2
theorem secb_len (Sc : Nat → C) (k : Nat) : (secb Sc k).length = k * 80 := by
  induction k with
  | zero => rfl
  | succ k ih => rw [secb, List.length_append, ih, pbs_len]; omega
theorem stab_len (St : Nat → C) (k : Nat) : (stab St k).length = k * 32 := by
  induction k with
  | zero => rfl
  | succ k ih => rw [stab, List.length_append, ih, pbs_len]; omega
/-- What is saved. -/
def svd (f c m : Bool) (n at_ ch : Nat) (g : C) (Sc St : Nat → C) : List Nat := ((((hdr f c m n ++ pbs (fun _ => g) 1) ++ secb Sc n) ++ be8 at_) ++ be8 ch) ++ stab St n
theorem be8_len (x : Nat) : (be8 x).length = 8 := rfl
theorem hdr_len (f c m : Bool) (n : Nat) : (hdr f c m n).length = 6 := rfl
theorem svd_len (f c m : Bool) (n at_ ch : Nat) (g : C) (Sc St : Nat → C) : (svd f c m n at_ ch g Sc St).length = 38 + 112 * n := by
  unfold svd
  simp only [List.length_append, secb_len, stab_len, pbs_len, be8_len, hdr_len]
  omega
theorem OB.lt {w : World} {B : Nat} {v : Value} {L : List Nat} (h : OB w B v L) : ∀ g, v.ownBlock = some g → B ≤ g ∧ g < w.heap.size := fun g hg => World.ownsRow.lt h g hg
theorem OB.four (w : World) (B : Nat) (hB : B ≤ w.heap.size) : OB (w.alloc (.cells #[.int .u8 81, .int .u8 86, .int .u8 83, .int .u8 49] 5)) B (.slice (some ⟨w.heap.size, 0, none⟩) 4 4) [81, 86, 83, 49] :=
  ⟨by simp, .inr ⟨w.heap.size, 4, _, rfl, hB, heap_alloc_new w _, Nat.le_refl _, by decide, rfl, rfl⟩⟩
/-- A part of the walk that writes nothing old. -/
theorem But.own {w0 w w' : World} {v : Value} {L : List Nat} (hbt : But [] w0 w) (hob : OB w w0.heap.size v L) (h : But v.ownBlock.toList w w') : But [] w0 w' :=
  hbt.then h (fun g hg hm => by
    have h1 : v.ownBlock = some g := by simpa using hm
    have := hob.block g h1
    omega)
theorem two_bytes (w : World) (e1 e2 : Int) (a b : Nat) (h1 : e1 = (a : Int)) (h2 : e2 = (b : Int)) : ∀ j c : Nat, [a, b][j]? = some c → (w.alloc (.cells #[.int .u8 e1, .int .u8 e2] 5)).cell? ((⟨w.heap.size, 0, none⟩ : Addr).add j) = some (.int .u8 (c : Int)) := by
  intro j c hj
  rcases j with _ | _ | j
  · simp at hj; subst hj; simp [go_sem, h1]
  · simp at hj; subst hj; simp [go_sem, h2]
  · simp at hj

theorem conv37 (wr : World) : ∃ wb : World, (convert 37 37 (.slice (some ⟨wr.heap.size, 0, none⟩) 4 4)).run Try.prog (wr.alloc (.cells #[.int .u8 81, .int .u8 86, .int .u8 83, .int .u8 49] 5)) = .ok (.slice (some ⟨wr.heap.size, 0, none⟩) 4 4) wb ∧ But [] wr wb ∧ wb.heap.size = wr.heap.size + 1 ∧ (∀ j b : Nat, [81, 86, 83, 49][j]? = some b → wb.cell? ⟨wr.heap.size, j, none⟩ = some (.int .u8 (b : Int))) :=
  ⟨_, Lib.run_convert_bytes_const (P := Try.prog) wr 37 5 _ 4 4 Try.underlying37 Try.underlying5, (But.refl _ _).alloc _, by simp, fun j b hj => by
    rw [cell_of_row _ _ _ _ _ _ (heap_alloc_new wr _)]
    rcases j with _ | _ | _ | _ | j
    · simp at hj; subst hj; rfl
    · simp at hj; subst hj; rfl
    · simp at hj; subst hj; rfl
    · simp at hj; subst hj; rfl
    · simp at hj⟩
/-- append onto a slice that is full, wherever it lies. -/
theorem wpList_append_full {w : World} {ops : Array Oper} {rest : List Oper} {o : Oper} {a : Act} {Q : Exit → Act → World → Prop} (hgd : o.guard = none) (s x : Operand)
    (ho : o.op = .call { callee := .builtin .append, args := #[s, x], argTypes := #[37, 37] }) (B g n : Nat) (L : List Nat) (hs : a.eval s = .slice (some ⟨g, 0, none⟩) n n) (hln : L.length = n) (hL : ∀ j b : Nat, L[j]? = some b → w.cell? ⟨g, j, none⟩ = some (.int .u8 (b : Int)))
    (ad : Addr) (m c : Nat) (N : List Nat) (hx : a.eval x = .slice (some ad) m c) (hm : N.length = m) (h0 : 0 < m) (hN : ∀ j b : Nat, N[j]? = some b → w.cell? (ad.add j) = some (.int .u8 (b : Int))) (h63 : n + m ≤ 140737488355328) (hbase : B ≤ w.heap.size)
    (h : ∀ v' w', OB w' B v' (L ++ N) → w.grownBy w' none → v' ≠ .slice none 0 0 → wpList Try.prog ops Q rest (a.put o.dst v') w') : wpList Try.prog ops Q (o :: rest) a w := by
  obtain ⟨i, hi, hz, hsz, hby⟩ := info_parts Try.info5
  refine wpList_plain hgd fun K hK => ?_
  have hadd : ∀ j, (⟨g, 0, none⟩ : Addr).add j = ⟨g, j, none⟩ := fun j => by unfold Addr.add; split <;> simp_all
  have hml : maxLen = 9223372036854775807 := rfl
  have hr := run_append_grow (P := Try.prog) w 37 o.type 5 i _ Try.underlying37 hi hz ⟨g, 0, none⟩ n n (L.map fun b : Nat => Value.int .u8 (b : Int)) (by simp [hln, hsz]) (fun j u hu => by
      rw [List.getElem?_map, Option.map_eq_some_iff] at hu
      obtain ⟨b, hb, rfl⟩ := hu
      rw [hadd]
      exact hL j b hb) ad m c (N.map fun b : Nat => Value.int .u8 (b : Int)) (by simp [hm, hsz]) (fun j u hu => by
      rw [List.getElem?_map, Option.map_eq_some_iff] at hu
      obtain ⟨b, hb, rfl⟩ := hu
      exact hN j b hb) (by omega) (by omega) (growslice_fits (by omega) (by rw [hby]; omega))
  have hge := grownCap_ge w (n + m) n 5
  have hcm : grownCap w (n + m) n 5 ≤ maxLen := grownCap_le_maxLen w (n + m) n 5 (by unfold maxLen; omega)
  unfold Oper.wp execOp
  simp only [ho, resolve, invoke, builtin, Sem.run_bind, Sem.run_pure, Result.andThen_ok, List.map_toArray, List.map_cons, List.map_nil, hs, hx, hr]
  refine hK _ _ (h _ _ ⟨by simp, .inr ⟨w.heap.size, grownCap w (n + m) n 5, _, by rw [List.length_append, hln, hm], hbase, heap_alloc_new w.drew _, by rw [List.length_append, hln, hm]; exact hge, hcm, ?_, ?_⟩⟩ ⟨rfl, rfl, rfl, by simp, fun k hk _ => by have := hk; simp only [World.alloc, World.drew, Array.getElem?_push]; rw [if_neg (by omega)]⟩ (by simp))
  · simp only [Array.size_append, List.size_toArray, size_zeroCells, List.length_map, hln, hm, Value.cells]
    simp
    omega
  · simp only [Array.toList_append, List.append_assoc, List.map_append]
    rw [← List.append_assoc]
    exact List.take_left' (by simp)
theorem wf_of {t : C} {v : Option Value} {x : C} (h : CV v x) (e : v = some (.complex .f64 t.1 t.2)) : wf t := by
  obtain ⟨a, h1, h2, _⟩ := h
  rw [e] at h1
  simp only [V, Option.some.injEq, Value.complex.injEq] at h1
  obtain ⟨_, e1, e2⟩ := h1
  exact ⟨e1 ▸ h2.1, e2 ▸ h2.2⟩
theorem two_rc (W : World) (t0 t1 : C) (xs : Nat → C) (h0 : wf t0) (h1 : wf t1) (e0 : ccn t0 = xs 0) (e1 : ccn t1 = xs 1) : RC (W.alloc (.cells #[.complex .f64 t0.1 t0.2, .complex .f64 t1.1 t1.2] 25)) W.heap.size 0 2 xs := by
  intro j hj
  have : j = 0 ∨ j = 1 := by omega
  rcases this with rfl | rfl
  · exact ⟨t0, by simp [go_sem, V], h0, e0⟩
  · exact ⟨t1, by simp [go_sem, V], h1, e1⟩
theorem five_rc (W : World) (s0 s1 s2 s3 s4 : C) (xs : Nat → C) (h0 : wf s0) (h1 : wf s1) (h2 : wf s2) (h3 : wf s3) (h4 : wf s4) (e0 : ccn s0 = xs 0) (e1 : ccn s1 = xs 1) (e2 : ccn s2 = xs 2) (e3 : ccn s3 = xs 3) (e4 : ccn s4 = xs 4) : RC (W.alloc (.cells #[.complex .f64 s0.1 s0.2, .complex .f64 s1.1 s1.2, .complex .f64 s2.1 s2.2, .complex .f64 s3.1 s3.2, .complex .f64 s4.1 s4.2] 25)) W.heap.size 0 5 xs := by
  intro j hj
  have : j = 0 ∨ j = 1 ∨ j = 2 ∨ j = 3 ∨ j = 4 := by omega
  rcases this with rfl | rfl | rfl | rfl | rfl
  · exact ⟨s0, by simp [go_sem, V], h0, e0⟩
  · exact ⟨s1, by simp [go_sem, V], h1, e1⟩
  · exact ⟨s2, by simp [go_sem, V], h2, e2⟩
  · exact ⟨s3, by simp [go_sem, V], h3, e3⟩
  · exact ⟨s4, by simp [go_sem, V], h4, e4⟩

set_option linter.unusedSimpArgs false in
set_option maxHeartbeats 2000000 in
set_option maxRecDepth 100000 in
theorem ssave_any (d p q n : Nat) (f c m : Bool) (at_ ch : Nat) (g : C) (Sc St : Nat → C) (w : World) (h : Stm w d p q n f c m at_ ch g Sc St) :
    Calls Try.prog 41 #[.pointer (some ⟨d, 0, none⟩)] w fun e w' => ∃ b cap, e = .returned (.slice (some ⟨b, 0, none⟩) (38 + 112 * n) cap) ∧ w.heap.size ≤ b ∧ (∀ j x : Nat, (svd f c m n at_ ch g Sc St)[j]? = some x → w'.cell? ⟨b, j, none⟩ = some (.int .u8 (x : Int))) ∧ But [] w w' ∧ 38 + 112 * n ≤ cap := by
  have hdl := h.dl
  have hql := h.ql
  obtain ⟨n16, ⟨gr, k1, k2, hb, hgw, hgc⟩, hsec, hsta, hpl, ndp, ndq, npq⟩ := h
  have c0 : w.cell? ⟨d, 0, none⟩ = some (.complex .f64 gr.1 gr.2) := by rw [cell_of_row w d 0 _ _ _ hb]; rfl
  have c1 : w.cell? ⟨d, 1, none⟩ = some (.slice (some ⟨p, 0, none⟩) n k1) := by rw [cell_of_row w d 1 _ _ _ hb]; rfl
  have c2 : w.cell? ⟨d, 2, none⟩ = some (.bool f) := by rw [cell_of_row w d 2 _ _ _ hb]; rfl
  have c3 : w.cell? ⟨d, 3, none⟩ = some (.bool c) := by rw [cell_of_row w d 3 _ _ _ hb]; rfl
  have c4 : w.cell? ⟨d, 4, none⟩ = some (.bool m) := by rw [cell_of_row w d 4 _ _ _ hb]; rfl
  have c6 : w.cell? ⟨d, 6, none⟩ = some (.int .u64 (at_ : Int)) := by rw [cell_of_row w d 6 _ _ _ hb]; rfl
  have c7 : w.cell? ⟨d, 7, none⟩ = some (.int .u64 (ch : Int)) := by rw [cell_of_row w d 7 _ _ _ hb]; rfl
  have HB := Lib.hid hb
  have HG := Lib.hid hgc
  clear hb hgc
  have i0 : ∀ W, (Instr.index 121 (.agg #[.bool f, .bool c, .bool m]) (.int .i64 0)).run Try.prog W = .ok (.bool f) W := fun _ => by kernel_rfl
  have i1 : ∀ W, (Instr.index 121 (.agg #[.bool f, .bool c, .bool m]) (.int .i64 1)).run Try.prog W = .ok (.bool c) W := fun _ => by kernel_rfl
  have i2 : ∀ W, (Instr.index 121 (.agg #[.bool f, .bool c, .bool m]) (.int .i64 2)).run Try.prog W = .ok (.bool m) W := fun _ => by kernel_rfl
  have r0 : bits .or .u8 0 1 = 1 := by decide
  have r1 : bits .or .u8 0 2 = 2 := by decide
  have r2 : bits .or .u8 1 2 = 3 := by decide
  have r3 : bits .or .u8 0 4 = 4 := by decide
  have r4 : bits .or .u8 1 4 = 5 := by decide
  have r5 : bits .or .u8 2 4 = 6 := by decide
  have r6 : bits .or .u8 3 4 = 7 := by decide
  go_enter Try.func41, Try.ntmps41
  go_wp2_with fail
  go_quiet (fail)
  go_wp2_with fail
  have hbq : But [] w (w.drewN nq) := (But.refl _ _).drewN _
  go_loopw [3, 29] (fun fl i wr => ∃ j : Nat, j ≤ 3 ∧ i = .int .i64 j ∧ fl = .int .u8 ((flg f c m j : Nat) : Int) ∧ But [] w wr) (fun _ i _ => 3 - (intOf i).toNat)
  case atStart => exact ⟨0, by omega, rfl, by simp [flg], hbq⟩
  case round =>
    obtain ⟨j, hj, rfl, rfl, hbr⟩ := hrel
    have hjc : j = 0 ∨ j = 1 ∨ j = 2 ∨ j = 3 := by omega
    rcases hjc with rfl | rfl | rfl | rfl
    · cases f
      all_goals
        (go_wp2_with fail)
        exact ⟨⟨1, by omega, by first | rfl | go_num, by first | rfl | (simp [flg]; done) | (simp [flg]; decide), hbr⟩, by simp [intOf]⟩
    · cases f <;> cases c
      all_goals
        (go_wp2_with fail)
        exact ⟨⟨2, by omega, by first | rfl | go_num, by first | rfl | (simp [flg]; done) | (simp [flg]; decide), hbr⟩, by simp [intOf]⟩
    · cases f <;> cases c <;> cases m
      all_goals
        (go_wp2_with fail)
        exact ⟨⟨3, by omega, by first | rfl | go_num, by first | rfl | (simp [flg]; done) | (simp [flg]; decide), hbr⟩, by simp [intOf]⟩
    · have szr := hbr.size
      have hwn : IntKind.u8.wrap (n : Int) = (n : Int) := by rw [IntKind.wrap_u8]; omega
      obtain ⟨wa, hcv, hba, hsa, h4a⟩ := conv37 wr
      clear hsa
      have hbw := hbr.trans hba
      have x1 := hbw.cell c1 (by simp)
      have sza := hbw.size
      go_wp2_with (at_builtin; go_loud (refine wpList_append_full rfl _ _ rfl w.heap.size wr.heap.size 4 [81, 86, 83, 49] rfl rfl (fun j b hj => ((But.refl [] wa).alloc _).cell (h4a j b hj) (by simp)) ⟨wa.heap.size, 0, none⟩ 2 2 [flg f c m 3, n] rfl rfl (by decide) (two_bytes wa _ _ _ _ rfl rfl) (by decide) (by simp; omega) ?_; intro v1 w1 hob1 hgr1 hnn1; have hbk : But [] w w1 := (hbw.alloc _).grown hgr1 (fun g hg => by simp at hg); have y0 := hbk.cell c0 (by simp)))
      have hob1' : OB w1 w.heap.size v1 (hdr f c m n) := hob1
      have sz1 := hbk.size
      refine (parts_any w.heap.size v1 (hdr f c m n) (some ⟨w1.heap.size, 0, none⟩) w1.heap.size 0 1 1 (fun _ => rfl) (by omega) (fun _ => g) _ (by simp; omega) (one_rc w1 gr.1 gr.2 g hgw HG.out) (fun h => by have := (hob1'.lt _ h).2; omega) (hob1'.alloc _) (by simp [hdr_len])).mono ?_
      rintro e w2 ⟨v2, rfl, hob2, hb2, hnn2, how2⟩
      have hb2' : But [] w w2 := (hbk.alloc _).own (hob1'.alloc _) hb2
      have hnn2' := hnn2 hnn1
      have z1 := hb2'.cell c1 (by simp)
      clear hob1 hob1' hba hbw x1 hgr1 hnn1 y0 hb2 how2 hnn2 hbk sz1 hbr hwn szr hcv h4a
      go_wp2_with fail
      go_loopw [6, 65] (fun vv i wr => ∃ k : Nat, k ≤ n ∧ i = .int .i64 k ∧ OB wr w.heap.size vv ((hdr f c m n ++ pbs (fun _ => g) 1) ++ secb Sc k) ∧ But [] w wr ∧ vv ≠ .slice none 0 0) (fun _ i _ => n - (intOf i).toNat)
      case atStart => exact ⟨0, Nat.zero_le _, rfl, by simpa [secb] using hob2, hb2', hnn2'⟩
      case round =>
        obtain ⟨k, hk, rfl, hob3, hb3, hnn3⟩ := hrel
        by_cases hlt : k < n
        · obtain ⟨s0, s1, s2, s3, s4, ⟨a0, a1, a2, a3, a4⟩, ⟨w00, w01, w02, w03, w04⟩, HS⟩ := (hsec.keep hb3 (by simp)).fiveO k hlt
          simp only [Nat.zero_add] at a0 a1 a2 a3 a4
          obtain ⟨w3, hw3, hbA, d0, d1, d2, d3, d4⟩ : ∃ w3, wr.alloc (.cells #[.complex .f64 s0.1 s0.2, .complex .f64 s1.1 s1.2, .complex .f64 s2.1 s2.2, .complex .f64 s3.1 s3.2, .complex .f64 s4.1 s4.2] 33) = w3 ∧ But [] wr w3 ∧
              w3.cell? ⟨wr.heap.size, 0, none⟩ = some (.complex .f64 s0.1 s0.2) ∧ w3.cell? ⟨wr.heap.size, 1, none⟩ = some (.complex .f64 s1.1 s1.2) ∧ w3.cell? ⟨wr.heap.size, 2, none⟩ = some (.complex .f64 s2.1 s2.2) ∧ w3.cell? ⟨wr.heap.size, 3, none⟩ = some (.complex .f64 s3.1 s3.2) ∧ w3.cell? ⟨wr.heap.size, 4, none⟩ = some (.complex .f64 s4.1 s4.2) :=
            ⟨_, rfl, (But.refl _ _).alloc _, by simp [go_sem], by simp [go_sem], by simp [go_sem], by simp [go_sem], by simp [go_sem]⟩
          have hrc := five_rc w3 s0 s1 s2 s3 s4 (fun i => Sc (k * 5 + i)) w00 w01 w02 w03 w04 HS.out.1 HS.out.2.1 HS.out.2.2.1 HS.out.2.2.2.1 HS.out.2.2.2.2
          have t9 : (k : Int) < n := by omega
          have sz3 := hb3.size
          have szA := hbA.size
          have hobA := hob3.keep hbA (by simp)
          go_wp2_with fail
          refine (parts_any w.heap.size u6 _ (some ⟨w3.heap.size, 0, none⟩) w3.heap.size 0 5 5 (fun _ => rfl) (by omega) (fun i => Sc (k * 5 + i)) _ (by simp; omega) hrc (fun h => by have := (hobA.lt _ h).2; omega) (hobA.alloc _) (by simp only [List.length_append, secb_len, pbs_len, hdr_len]; omega)).mono ?_
          rintro e w4 ⟨v4, rfl, hob4, hb4, hnn4, how4⟩
          have hb4' : But [] w w4 := ((hb3.trans hbA).alloc _).own (hobA.alloc _) hb4
          go_wp2_with fail
          exact ⟨⟨k + 1, by omega, by go_num, by rw [secb, ← List.append_assoc]; exact hob4, hb4', hnn4 hnn3⟩, by simp [intOf]; omega⟩
        · obtain rfl : n = k := by omega
          go_upto_region 17 with fail
          refine wp_region_noPanic ?_
          refine wp_region_held_drew (S := fun w' => w'.cell? ⟨d, 6, none⟩ = some (.int .u64 (at_ : Int)) ∧ w'.cell? ⟨d, 7, none⟩ = some (.int .u64 (ch : Int))) (by kernel_rfl) ?_ (fun hHeld => ?_)
          · (try dsimp only); exact ⟨(hb3.drew).cell c6 (by simp), (hb3.drew).cell c7 (by simp)⟩
          (refine wpAnyH_take (i := 0) (oi := _) (v := _) rfl (by decide +kernel) (by decide +kernel) (by decide +kernel) (fun _ _ _ h => h) (Or.inl ⟨by rfl, by (intro w hSw; (try dsimp only at hSw); go_simp; try with_reducible rfl)⟩) (by assumption) ?_; (try simp only [Act.put, List.setIfInBounds_toArray, List.set_cons_zero, List.set_cons_succ, List.getElem_toArray, List.getElem_cons_succ, List.getElem_cons_zero]))
          (refine wpAnyH_take (i := 1) (oi := _) (v := _) rfl (by decide +kernel) (by decide +kernel) (by decide +kernel) (fun _ _ _ h => h) (Or.inl ⟨by rfl, by (intro w hSw; (try dsimp only at hSw); go_simp; try with_reducible rfl)⟩) (by assumption) ?_; (try simp only [Act.put, List.setIfInBounds_toArray, List.set_cons_zero, List.set_cons_succ, List.getElem_toArray, List.getElem_cons_succ, List.getElem_cons_zero]))
          (refine wpAnyH_take (i := 2) (oi := _) (v := _) rfl (by decide +kernel) (by decide +kernel) (by decide +kernel) (fun _ _ _ h => h) (Or.inl ⟨by rfl, by (intro w hSw; (try dsimp only at hSw); go_simp; try with_reducible rfl)⟩) (by assumption) ?_; (try simp only [Act.put, List.setIfInBounds_toArray, List.set_cons_zero, List.set_cons_succ, List.getElem_toArray, List.getElem_cons_succ, List.getElem_cons_zero]))
          (refine wpAnyH_take (i := 3) (oi := _) (v := _) rfl (by decide +kernel) (by decide +kernel) (by decide +kernel) (fun _ _ _ h => h) (Or.inl ⟨by rfl, by (intro w hSw; (try dsimp only at hSw); go_simp; try with_reducible rfl)⟩) (by assumption) ?_; (try simp only [Act.put, List.setIfInBounds_toArray, List.set_cons_zero, List.set_cons_succ, List.getElem_toArray, List.getElem_cons_succ, List.getElem_cons_zero]))
          (refine wpAnyH_take (i := 4) (oi := _) (v := _) rfl (by decide +kernel) (by decide +kernel) (by decide +kernel) (fun _ _ _ h => h) (Or.inl ⟨by rfl, by (intro w hSw; (try dsimp only at hSw); go_simp; try with_reducible rfl)⟩) (by assumption) ?_; (try simp only [Act.put, List.setIfInBounds_toArray, List.set_cons_zero, List.set_cons_succ, List.getElem_toArray, List.getElem_cons_succ, List.getElem_cons_zero]))
          (refine wpAnyH_take (i := 6) (oi := _) (v := _) rfl (by decide +kernel) (by decide +kernel) (by decide +kernel) (fun _ _ _ h => h) (Or.inl ⟨by rfl, by (intro w hSw; (try dsimp only at hSw); go_simp; try with_reducible rfl)⟩) (by assumption) ?_; (try simp only [Act.put, List.setIfInBounds_toArray, List.set_cons_zero, List.set_cons_succ, List.getElem_toArray, List.getElem_cons_succ, List.getElem_cons_zero]))
          (refine wpAnyH_take (i := 7) (oi := _) (v := _) rfl (by decide +kernel) (by decide +kernel) (by decide +kernel) (fun _ _ _ h => h) (Or.inl ⟨by rfl, by (intro w hSw; (try dsimp only at hSw); go_simp; try with_reducible rfl)⟩) (by assumption) ?_; (try simp only [Act.put, List.setIfInBounds_toArray, List.set_cons_zero, List.set_cons_succ, List.getElem_toArray, List.getElem_cons_succ, List.getElem_cons_zero]))
          (refine wpAnyH_take (i := 8) (oi := _) (v := _) rfl (by decide +kernel) (by decide +kernel) (by decide +kernel) (fun _ _ _ h => h) (Or.inl ⟨by rfl, by (intro w hSw; (try dsimp only at hSw); go_simp; try with_reducible rfl)⟩) (by assumption) ?_; (try simp only [Act.put, List.setIfInBounds_toArray, List.set_cons_zero, List.set_cons_succ, List.getElem_toArray, List.getElem_cons_succ, List.getElem_cons_zero]))
          (refine wpAnyH_take (i := 9) (oi := _) (v := _) rfl (by decide +kernel) (by decide +kernel) (by decide +kernel) (fun _ _ _ h => h) (Or.inl ⟨by rfl, by (intro w hSw; (try dsimp only at hSw); go_simp; try with_reducible rfl)⟩) (by assumption) ?_; (try simp only [Act.put, List.setIfInBounds_toArray, List.set_cons_zero, List.set_cons_succ, List.getElem_toArray, List.getElem_cons_succ, List.getElem_cons_zero]))
          refine wpAnyH_ready (rs := [5]) (by decide +kernel) (by simp) ?_
          refine AllReadyH.cons (o := _) rfl (fun K hK => ?_) AllReadyH.nil
          go_simp; go_at_call 84; refine (number_any w.heap.size u6 _ at_ _ (by have := hb3.size; simpa using this) (hob3.keep (But.refl [] _).drew (by simp)) (by simp only [List.length_append, secb_len, pbs_len, hdr_len]; omega)).mono ?_; rintro e w4 ⟨v4, rfl, hob4, hb4, hnn4, how4⟩; have hb4' : But [] w w4 := (hb3.drew).own (hob3.keep (But.refl [] _).drew (by simp)) hb4; go_wp2_with fail
          refine hK.out _ _ (by (try dsimp only); exact ⟨hb4'.cell c6 (by simp), hb4'.cell c7 (by simp)⟩) (fun hNew => ?_); clear hK K; clear hHeld; have hHeld := hNew; clear hNew
          (try simp only [Act.put, List.setIfInBounds_toArray, List.set_cons_zero, List.set_cons_succ, List.getElem_toArray, List.getElem_cons_succ, List.getElem_cons_zero])
          refine wpAnyH_ready (rs := [10]) (by decide +kernel) (by simp) ?_
          refine AllReadyH.cons (o := _) rfl (fun K hK => ?_) AllReadyH.nil
          go_simp; go_at_call 84; refine (number_any w.heap.size v4 _ ch _ (by have := hb4'.size; omega) hob4 (by simp only [List.length_append, secb_len, pbs_len, hdr_len, be8_len]; omega)).mono ?_; rintro e w5 ⟨v5, rfl, hob5, hb5, hnn5, how5⟩; have hb5' : But [] w w5 := hb4'.own hob4 hb5; go_wp2_with fail
          refine hK.out _ _ (by (try dsimp only); exact ⟨hb5'.cell c6 (by simp), hb5'.cell c7 (by simp)⟩) (fun hNew => ?_); clear hK K; clear hHeld; have hHeld := hNew; clear hNew
          (try simp only [Act.put, List.setIfInBounds_toArray, List.set_cons_zero, List.set_cons_succ, List.getElem_toArray, List.getElem_cons_succ, List.getElem_cons_zero])
          (refine wpAnyH_take (i := 11) (oi := _) (v := _) rfl (by decide +kernel) (by decide +kernel) (by decide +kernel) (fun _ _ _ h => h) (Or.inl ⟨by rfl, by (intro w hSw; (try dsimp only at hSw); go_simp; try with_reducible rfl)⟩) (by assumption) ?_; (try simp only [Act.put, List.setIfInBounds_toArray, List.set_cons_zero, List.set_cons_succ, List.getElem_toArray, List.getElem_cons_succ, List.getElem_cons_zero]))
          refine wpAnyH_done (by decide +kernel) ?_ _
          refine NoPanic.normal ?_; (try simp only [Exit.then])
          clear hHeld
          have hob5' := hob5
          have c5 : w5.cell? ⟨d, 2 + 3, none⟩ = some (.slice (some ⟨q, 0, none⟩) n k2) := by have := hb5'.heap HB.out (by simp); rw [cell_of_row _ d 5 _ _ _ this]; rfl
          go_wp2_with fail
          go_loopw [6, 99] (fun vv i wr => ∃ k : Nat, k ≤ n ∧ i = .int .i64 k ∧ OB wr w.heap.size vv (((((hdr f c m n ++ pbs (fun _ => g) 1) ++ secb Sc n) ++ be8 at_) ++ be8 ch) ++ stab St k) ∧ But [] w wr ∧ vv ≠ .slice none 0 0) (fun _ i _ => n - (intOf i).toNat)
          case atStart => exact ⟨0, Nat.zero_le _, rfl, by simpa [stab] using hob5', hb5', hnn5 (hnn4 hnn3)⟩
          case round =>
            obtain ⟨k, hk, rfl, hob6, hb6, hnn6⟩ := hrel
            by_cases hlt : k < n
            · obtain ⟨t0, t1, ⟨b0, b1⟩, _, HT⟩ := (hsta.keep hb6 (by simp)).two k hlt
              obtain ⟨w7, hw7, hb7, x0, x1⟩ : ∃ w7, wr.alloc (.cells #[.complex .f64 t0.1 t0.2, .complex .f64 t1.1 t1.2] 71) = w7 ∧ But [] wr w7 ∧ w7.cell? ⟨wr.heap.size, 0, none⟩ = some (.complex .f64 t0.1 t0.2) ∧ w7.cell? ⟨wr.heap.size, 1, none⟩ = some (.complex .f64 t1.1 t1.2) := ⟨_, rfl, (But.refl _ _).alloc _, by simp [go_sem], by simp [go_sem]⟩
              have hrS := (hsta.keep hb6 (by simp)).rc
              have q0 := hrS (k * 2) (by omega)
              have q1 := hrS (k * 2 + 1) (by omega)
              rw [Nat.zero_add] at q0 q1
              have wt : wf t0 ∧ wf t1 := ⟨wf_of q0 b0, wf_of q1 b1⟩
              have hrc := two_rc w7 t0 t1 (fun i => St (k * 2 + i)) wt.1 wt.2 HT.out.1 HT.out.2
              have t9 : (k : Int) < n := by omega
              have sz6 := hb6.size
              have sz7 := hb7.size
              have hob7 := hob6.keep hb7 (by simp)
              go_wp2_with fail
              refine (parts_any w.heap.size u6 _ (some ⟨w7.heap.size, 0, none⟩) w7.heap.size 0 2 2 (fun _ => rfl) (by omega) (fun i => St (k * 2 + i)) _ (by simp; omega) hrc (fun h => by have := (hob7.lt _ h).2; omega) (hob7.alloc _) (by simp only [List.length_append, secb_len, stab_len, pbs_len, hdr_len, be8_len]; omega)).mono ?_
              rintro e w8 ⟨v8, rfl, hob8, hb8, hnn8, how8⟩
              have hb8' : But [] w w8 := ((hb6.trans hb7).alloc _).own (hob7.alloc _) hb8
              go_wp2_with fail
              exact ⟨⟨k + 1, by omega, by go_num, by rw [stab, ← List.append_assoc]; exact hob8, hb8', hnn8 hnn6⟩, by simp [intOf]; omega⟩
            · obtain rfl : n = k := by omega
              go_wp2_with fail
              go_ret
              rcases hob6.form with ⟨h1, _⟩ | ⟨gb, cap, cur, rfl, h2, h3, h4, h5⟩
              · exact absurd h1 hnn6
              · have hl := svd_len f c m n at_ ch g Sc St
                unfold svd at hl
                rw [hl]
                exact ⟨gb, cap, rfl, h2, h5, hb6, hl ▸ h4⟩
end Go.Proofs.Ytnmpofjegepmaaa
