/- WholeStreams: the switch within a round. -/
import Derived.Test.YtnmpofjegepmaaaU7
import Derived.Deep.CutRange
import Derived.Deep.QuietTactic
import Derived.BigQuiet
namespace Go.Proofs.Ytnmpofjegepmaaa
open Go.RowKit Go.Shelf Go.Proofs.Ytnmpofjegepmaaa.Fl Go.Proofs.Ytnmpofjegepmaaa.Pt


attribute [local go_sem] Oper.semAt_some
set_option linter.unusedSimpArgs false in
set_option maxHeartbeats 2000000 in
set_option maxRecDepth 100000 in
theorem sw0_any (wB wN : World) (K V0 : Option Addr) (nc kc b12 gx M c vk b21 at_ I bn n' d0 p0 q0 n d p q : Nat) (f cl mu : Bool) (Sc xs : Nat → C) (v : Value) (Ds : List Nat) (r9 : Int) (u0 u1 u3 u4 u5 u6 u7 u8 u9 u10 u11 u13 u14 u17 u18 u19 u25 u26 u27 u28 u29 u30 u31 u32 u33 u34 u35 u36 u37 u38 u39 u40 u41 u42 u43 u44 u45 u46 u47 u48 u49 u50 u51 u52 u53 u54 u55 u56 u57 u58 u59 u60 u61 u62 u63 u64 u65 u66 u67 u68 u69 u70 u71 u72 u73 u74 u75 u76 u77 u78 u79 u80 u81 u82 u83 u84 u85 u86 u87 u88 u89 u90 u91 u92 u93 u94 u95 u96 u97 u98 u99 u100 u101 u102 u103 u104 u105 u106 u107 u108 u110 u111 u112 u113 u114 u115 u116 u117 u118 u119 u120 u121 u122 u123 u124 u125 u126 u127 u128 u129 u130 u131 u132 u133 u134 u135 u136 u137 u138 u139 u140 u141 u142 u143 u144 u145 u146 u147 u148 u149 u150 u151 u152 u153 u154 u155 u156 u157 u158 u159 u160 u161 u162 u163 u164 u165 u166 u167 u168 u169 u170 u171 u172 u173 u174 u176 u177 u178 u179 u180 u181 u182 u183 u184 u185 u186 u187 u188 u189 u190 u191 u192 u193 u194 u195 u196 u197 u198 u199 u200 u201 u202 u203 u204 u205 u206 u207 u208 u209 u210 u211 u212 u213 u214 u215 u216 u217 u218 u219 u220 : Value) (Q : Exit → Act → World → Prop)
    (hr9 : r9 = (I : Int) % 3) (h3 : I % 3 = 0)
    (hS : S0 wN d p q n f cl mu GN Sc xs at_) (hG : Gp wB wN d0 q0 b21 n f cl mu Sc xs at_ v [d, p, q] Ds) (hdd : d = d0 ∨ wB.heap.size ≤ d) (hpp : p = p0 ∨ wB.heap.size ≤ p) (hqq : q = q0 ∨ wB.heap.size ≤ q) (hnd : Ds.Nodup)
    (hn : wN.heap[bn]? = some (.cells #[.int .i64 (n' : Int)] 3 (0, 0))) (hnB : wB.heap.size ≤ bn) (hbd : bn ≠ d ∧ bn ≠ p ∧ bn ≠ q)
    (hk : d0 < b21 ∧ p0 < b21 ∧ q0 < b21 ∧ b21 < wB.heap.size) (hx : RC wN gx 0 M xs) (hgx : gx < b21 ∧ gx ≠ d ∧ gx ≠ q ∧ gx ≠ d0 ∧ gx ≠ q0) (m1 : at_ + n' ≤ M) (m2 : n' ≤ 7) (hM : M ≤ 300) (hMc : M ≤ c) (hlt : at_ < M)
    (hcan : ∀ j, j < n * 5 → wf (Sc j) ∧ ccn (Sc j) = Sc j) (hfin : ∀ j, j < n * 5 → FinC (Sc j)) (hn4 : n ≤ 4)
    (hvv : v = .slice none 0 0 ∧ at_ = 0 ∨ ∃ g cap, v = .slice (some ⟨g, 0, none⟩) at_ cap)
    (hQ : ∀ a' w', SwP wB K V0 nc kc b12 gx M c vk b21 at_ I bn n' d0 p0 q0 n f cl mu Sc xs a' w' → Q .normal a' w') :
    Code.wp Try.prog sw Q { tmps := #[u0, u1, .slice K nc kc, u3, u4, u5, u6, u7, u8, u9, u10, u11, .pointer (some ⟨b12, 0, none⟩), u13, u14, .slice (some ⟨gx, 0, none⟩) M c, .pointer (some ⟨d, 0, none⟩), u17, u18, u19, .slice V0 M vk, .pointer (some ⟨b21, 0, none⟩), .int .i64 (at_ : Int), .int .i64 (I : Int), .pointer (some ⟨bn, 0, none⟩), u25, u26, u27, u28, u29, u30, u31, u32, u33, u34, u35, u36, u37, u38, u39, u40, u41, u42, u43, u44, u45, u46, u47, u48, u49, u50, u51, u52, u53, u54, u55, u56, u57, u58, u59, u60, u61, u62, u63, u64, u65, u66, u67, u68, u69, u70, u71, u72, u73, u74, u75, u76, u77, u78, u79, u80, u81, u82, u83, u84, u85, u86, u87, u88, u89, u90, u91, u92, u93, u94, u95, u96, u97, u98, u99, u100, u101, u102, u103, u104, u105, u106, u107, u108, .int .i64 r9, u110, u111, u112, u113, u114, u115, u116, u117, u118, u119, u120, u121, u122, u123, u124, u125, u126, u127, u128, u129, u130, u131, u132, u133, u134, u135, u136, u137, u138, u139, u140, u141, u142, u143, u144, u145, u146, u147, u148, u149, u150, u151, u152, u153, u154, u155, u156, u157, u158, u159, u160, u161, u162, u163, u164, u165, u166, u167, u168, u169, u170, u171, u172, u173, u174, .bool true, u176, u177, u178, u179, u180, u181, u182, u183, u184, u185, u186, u187, u188, u189, u190, u191, u192, u193, u194, u195, u196, u197, u198, u199, u200, u201, u202, u203, u204, u205, u206, u207, u208, u209, u210, u211, u212, u213, u214, u215, u216, u217, u218, u219, u220], defers := marks Ds } wN := by
  conv => arg 2; whnf
  have hed : b21 ≠ d := by rcases hdd with h | h <;> omega
  have hep : b21 ≠ p := by rcases hpp with h | h <;> omega
  have heq : b21 ≠ q := by rcases hqq with h | h <;> omega
  have HDD := Lib.hid hdd
  have HPP := Lib.hid hpp
  have HQQ := Lib.hid hqq
  have HQ := Lib.hid hQ
  have HN4 := Lib.hid hn4
  have HVV := Lib.hid hvv
  clear hdd hpp hqq hQ hvv
  have hdl := hS.dl
  have hpl := hS.pl
  have hql := hS.ql
  have hB21 := hG.1
  have c21 : wN.cell? ⟨b21, 0, none⟩ = some v := by rw [cell_of_row wN b21 0 _ _ _ hB21]; rfl
  have cbn : wN.cell? ⟨bn, 0, none⟩ = some (.int .i64 (n' : Int)) := by rw [cell_of_row wN bn 0 _ _ _ hn]; rfl
  have hbnl : bn < wN.heap.size := (Array.getElem?_eq_some_iff.1 hn).1
  have hB21l : b21 < wN.heap.size := (Array.getElem?_eq_some_iff.1 hB21).1
  have hxc : RC wN gx at_ n' (fun j => xs (at_ + j)) := by
    have := hx.cut (i := at_) (n := n') (by omega)
    rwa [Nat.zero_add] at this
  have HX := Lib.hid hx
  have HXC := Lib.hid hxc
  have H21 := Lib.hid hB21
  have HN := Lib.hid hn
  have HS := Lib.hid hS
  have HG := Lib.hid hG
  have HCAN := Lib.hid hcan
  have HFIN := Lib.hid hfin
  clear hx hxc hB21 hn hS hG hcan hfin
  have e6 : IntKind.i64.wrap ((at_ : Int) + n') = (at_ : Int) + n' := by rw [IntKind.wrap_i64]; omega
  have c21d := (But.refl [] wN).drew.cell c21 (by simp)
  have hnD : d ∉ Ds ∧ q ∉ Ds := ⟨fun hm => (stm_nodef HS.out (HG.out.2.2.2.2 _ hm).2).1 rfl, fun hm => (stm_nodef HS.out (HG.out.2.2.2.2 _ hm).2).2 rfl⟩
  have hdq0 : (d < wB.heap.size → d = d0) ∧ (q < wB.heap.size → q = q0) := ⟨fun h => HDD.out.elim id (fun h' => by omega), fun h => HQQ.out.elim id (fun h' => by omega)⟩
  have q1 : (at_ : Int) + n' ≤ M := by omega
  have q6 : (at_ : Int) + n' ≤ c := by omega
  have q7 : at_ ≤ at_ + n' := by omega
  have q8 : at_ + n' - at_ = n' := by omega
  have q2 : (0 : Int) ≤ (at_ : Int) + n' := by omega
  have q3 : ((at_ : Int) + n').toNat = at_ + n' := by omega
  have q4 : (at_ : Int) ≤ (at_ : Int) + n' := by omega
  have q5 : ¬ c = at_ := by omega
  have t3 : (r9 == 0) = true := by simp; omega
  go_upto_region 34 with fail
  refine wp_region_noPanic ?_
  refine wp_region_held_drew (S := fun w' => w'.cell? ⟨bn, 0, none⟩ = some (.int .i64 (n' : Int))) (by kernel_rfl) ?_ (fun hHeld => ?_)
  · (try dsimp only); exact (But.refl [] _).drew.cell cbn (by simp)
  (refine wpAnyH_take (i := 1) (oi := _) (v := _) rfl (by decide +kernel) (by decide +kernel) (by decide +kernel) (fun _ _ _ h => h) (Or.inl ⟨by rfl, by (intro w hSw; (try dsimp only at hSw); go_simp; try with_reducible rfl)⟩) (by assumption) ?_; (try simp only [Act.put, List.setIfInBounds_toArray, List.set_cons_zero, List.set_cons_succ, List.getElem_toArray, List.getElem_cons_succ, List.getElem_cons_zero]))
  (refine wpAnyH_take (i := 2) (oi := _) (v := _) rfl (by decide +kernel) (by decide +kernel) (by decide +kernel) (fun _ _ _ h => h) (Or.inl ⟨by rfl, by (intro w hSw; (try dsimp only at hSw); go_simp; try with_reducible rfl)⟩) (by assumption) ?_; (try simp only [Act.put, List.setIfInBounds_toArray, List.set_cons_zero, List.set_cons_succ, List.getElem_toArray, List.getElem_cons_succ, List.getElem_cons_zero]))
  (refine wpAnyH_take (i := 3) (oi := _) (v := _) rfl (by decide +kernel) (by decide +kernel) (by decide +kernel) (fun _ _ _ h => h) (Or.inl ⟨by rfl, by (intro w hSw; (try dsimp only at hSw); go_simp; try with_reducible rfl)⟩) (by assumption) ?_; (try simp only [Act.put, List.setIfInBounds_toArray, List.set_cons_zero, List.set_cons_succ, List.getElem_toArray, List.getElem_cons_succ, List.getElem_cons_zero]))
  (refine wpAnyH_take (i := 4) (oi := _) (v := _) rfl (by decide +kernel) (by decide +kernel) (by decide +kernel) (fun _ _ _ h => h) (Or.inl ⟨by rfl, by (intro w hSw; (try dsimp only at hSw); go_simp; try with_reducible rfl)⟩) (by assumption) ?_; (try simp only [Act.put, List.setIfInBounds_toArray, List.set_cons_zero, List.set_cons_succ, List.getElem_toArray, List.getElem_cons_succ, List.getElem_cons_zero]))
  (refine wpAnyH_take (i := 5) (oi := _) (v := _) rfl (by decide +kernel) (by decide +kernel) (by decide +kernel) (fun _ _ _ h => h) (Or.inl ⟨by rfl, by (intro w hSw; (try dsimp only at hSw); go_simp; try with_reducible rfl)⟩) (by assumption) ?_; (try simp only [Act.put, List.setIfInBounds_toArray, List.set_cons_zero, List.set_cons_succ, List.getElem_toArray, List.getElem_cons_succ, List.getElem_cons_zero]))
  (refine wpAnyH_take (i := 6) (oi := _) (v := _) rfl (by decide +kernel) (by decide +kernel) (by decide +kernel) (fun _ _ _ h => h) (Or.inl ⟨by rfl, by (intro w hSw; (try dsimp only at hSw); go_simp; try with_reducible rfl)⟩) (by assumption) ?_; (try simp only [Act.put, List.setIfInBounds_toArray, List.set_cons_zero, List.set_cons_succ, List.getElem_toArray, List.getElem_cons_succ, List.getElem_cons_zero]))
  (refine wpAnyH_take (i := 7) (oi := _) (v := _) rfl (by decide +kernel) (by decide +kernel) (by decide +kernel) (fun _ _ _ h => h) (Or.inl ⟨by rfl, by (intro w hSw; (try dsimp only at hSw); go_simp; try with_reducible rfl)⟩) (by assumption) ?_; (try simp only [Act.put, List.setIfInBounds_toArray, List.set_cons_zero, List.set_cons_succ, List.getElem_toArray, List.getElem_cons_succ, List.getElem_cons_zero]))
  refine wpAnyH_ready (rs := [0, 8]) (by decide +kernel) (by simp) ?_
  refine AllReadyH.cons (o := _) rfl (fun K hK => ?_) ?_
  · go_simp
    refine hK.out _ _ (by (try dsimp only); exact hHeld) (fun hNew => ?_); clear hK K; clear hHeld; have hHeld := hNew; clear hNew
    (try simp only [Act.put, List.setIfInBounds_toArray, List.set_cons_zero, List.set_cons_succ, List.getElem_toArray, List.getElem_cons_succ, List.getElem_cons_zero])
    refine wpAnyH_ready (rs := [8]) (by decide +kernel) (by simp) ?_
    refine AllReadyH.cons (o := _) rfl (fun K hK => ?_) AllReadyH.nil
    go_simp; go_at_call 42; refine (spush_any d p q n n' gx at_ _ _ (fun _ => rfl) f cl mu at_ _ (by omega) (cnt_lt _ _) (by omega) GN Sc _ (fun j => xs (at_ + j)) _ (HS.out.keep (But.refl [] _).drew (by simp) (by simp) (by simp)) (HXC.out.keep (But.refl [] _).drew (by simp))).mono ?_; rintro e w5 ⟨LA, bb, kk, rfl, hLA, hrc, hbb, hsk, hbP⟩; have hbD : But [d, q] wN w5 := (But.refl _ _).drew.trans hbP; have HLA := Lib.hid hLA; clear hLA; have c215 := hbD.cell c21 (by simp; omega); have h215 := hbD.heap H21.out (by simp; omega); have hn5 := hbD.heap HN.out (by simp; omega); have hG5 := HG.out.keep hbD (fun i hi => by simp at hi; rcases hi with rfl | rfl; exact ⟨by simp, hnD.1, fun e => hed e.symm, fun h => .inl (hdq0.1 h)⟩; exact ⟨by simp, hnD.2, fun e => heq e.symm, fun h => .inr (hdq0.2 h)⟩); have hS5 := stk_next hsk (by omega); have HRC := Lib.hid (hrc.congr (ys := fun j => qYs f cl mu n GN Sc (fun _ => Z0) xs (at_ + j)) (fun j _ => qYs_add _ _ _ _ _ _ _ _ _ _)); have H215 := Lib.hid h215; have HN5 := Lib.hid hn5; have HG5 := Lib.hid hG5; have HS5 := Lib.hid hS5; clear hrc hG5 hS5 h215 hn5; go_wp2_with fail
    refine hK.out _ _ (by (try dsimp only); exact hbD.cell cbn (by simp; omega)) (fun hNew => ?_); clear hK K; clear hHeld; have hHeld := hNew; clear hNew
    (try simp only [Act.put, List.setIfInBounds_toArray, List.set_cons_zero, List.set_cons_succ, List.getElem_toArray, List.getElem_cons_succ, List.getElem_cons_zero])
    refine wpAnyH_ready (rs := [9]) (by decide +kernel) (by simp) ?_
    refine AllReadyH.cons (o := _) rfl (fun K hK => ?_) AllReadyH.nil
    refine step_append_rc _ rfl _ _ _ rfl wB.heap.size 25 _ 1 16 Try.underlying34 Try.info25 rfl (by omega) v at_ (qYs f cl mu n GN Sc (fun _ => Z0) xs) rfl HG5.out.2.1 LA bb 0 n' kk _ rfl HLA.out (by rw [Nat.mul_one]; exact HRC.out) (by omega) (by omega) HG5.out.2.2.1.size ?_; intro v' w6 hor6 hgr hob hnn; obtain ⟨A9, g9, c9, rfl, _, _, _, _⟩ := hor6.shape3; have hb6 := But.of_grown hgr; have h216 := hb6.heap H215.out (fun hm => by have := (HG5.out.2.1.lt b21 (by simpa using hm)).1; omega); have c216 := (cell_of_row w6 b21 0 _ _ _ h216).trans (c := some v) rfl; have z216 := blk_free (i := 0) h216; have hn6 := hb6.heap HN5.out (fun hm => HG5.out.2.1.ne_tag HN5.out (by decide) bn (by simpa using hm) rfl); have hL6 := Lp.next HS5.out HG5.out HDD.out HPP.out HQQ.out hnd hk.2.2.2 ⟨hed, hep, heq⟩ hgr hor6 hob HN5.out (by omega); have HL6 := Lib.hid hL6; clear hL6 h216
    refine hK.out _ _ (by (try dsimp only); exact (cell_of_row w6 bn 0 _ _ _ hn6).trans rfl) (fun hNew => ?_); clear hK K; clear hHeld; have hHeld := hNew; clear hNew
    (try simp only [Act.put, List.setIfInBounds_toArray, List.set_cons_zero, List.set_cons_succ, List.getElem_toArray, List.getElem_cons_succ, List.getElem_cons_zero])
    refine wpAnyH_ready (rs := [10]) (by decide +kernel) (by simp) ?_
    refine AllReadyH.cons (o := _) rfl (fun K hK => ?_) AllReadyH.nil
    go_simp; go_wp2_with fail
    refine hK.out _ _ (by (try dsimp only); exact (cell_of_row _ bn 0 _ _ _ HL6.out.2).trans rfl) (fun hNew => ?_); clear hK K; clear hHeld; have hHeld := hNew; clear hNew
    (try simp only [Act.put, List.setIfInBounds_toArray, List.set_cons_zero, List.set_cons_succ, List.getElem_toArray, List.getElem_cons_succ, List.getElem_cons_zero])
    refine wpAnyH_done (by decide +kernel) ?_ _
    refine NoPanic.normal ?_; (try simp only [Exit.then]); refine HQ.out _ _ ⟨_, _, _, _, _, _, _, _, _, _, _, _, _, _, _, _, _, _, _, _, _, _, _, _, _, _, _, _, _, _, _, _, _, _, _, _, _, _, _, _, _, _, _, _, _, _, _, _, _, _, _, _, _, _, _, _, _, _, _, _, _, _, _, _, _, _, _, _, _, _, _, _, _, _, _, _, _, _, _, _, _, _, _, _, _, _, _, _, _, _, _, _, _, _, _, _, _, _, _, _, _, _, _, _, _, _, _, _, _, _, _, _, _, _, _, _, _, _, _, _, _, _, _, _, _, _, _, _, _, _, _, _, _, _, _, _, _, _, _, _, _, _, _, _, _, _, _, _, _, _, _, _, _, _, _, _, _, _, _, _, _, _, _, _, _, _, _, _, _, _, _, _, _, _, _, _, _, _, _, _, _, _, _, _, _, _, _, _, _, _, _, _, _, _, _, _, _, _, _, _, _, _, _, _, _, _, _, _, _, _, _, _, d, p, q, _, Ds, HL6.out, rfl⟩
  refine AllReadyH.cons (o := _) rfl (fun K hK => ?_) AllReadyH.nil
  go_simp; go_at_call 42; refine (spush_any d p q n n' gx at_ _ _ (fun _ => rfl) f cl mu at_ _ (by omega) (cnt_lt _ _) (by omega) GN Sc _ (fun j => xs (at_ + j)) _ (HS.out.keep (But.refl [] _).drew (by simp) (by simp) (by simp)) (HXC.out.keep (But.refl [] _).drew (by simp))).mono ?_; rintro e w5 ⟨LA, bb, kk, rfl, hLA, hrc, hbb, hsk, hbP⟩; have hbD : But [d, q] wN w5 := (But.refl _ _).drew.trans hbP; have HLA := Lib.hid hLA; clear hLA; have c215 := hbD.cell c21 (by simp; omega); have h215 := hbD.heap H21.out (by simp; omega); have hn5 := hbD.heap HN.out (by simp; omega); have hG5 := HG.out.keep hbD (fun i hi => by simp at hi; rcases hi with rfl | rfl; exact ⟨by simp, hnD.1, fun e => hed e.symm, fun h => .inl (hdq0.1 h)⟩; exact ⟨by simp, hnD.2, fun e => heq e.symm, fun h => .inr (hdq0.2 h)⟩); have hS5 := stk_next hsk (by omega); have HRC := Lib.hid (hrc.congr (ys := fun j => qYs f cl mu n GN Sc (fun _ => Z0) xs (at_ + j)) (fun j _ => qYs_add _ _ _ _ _ _ _ _ _ _)); have H215 := Lib.hid h215; have HN5 := Lib.hid hn5; have HG5 := Lib.hid hG5; have HS5 := Lib.hid hS5; clear hrc hG5 hS5 h215 hn5; go_wp2_with fail
  refine hK.out _ _ (by (try dsimp only); exact hbD.cell cbn (by simp; omega)) (fun hNew => ?_); clear hK K; clear hHeld; have hHeld := hNew; clear hNew
  (try simp only [Act.put, List.setIfInBounds_toArray, List.set_cons_zero, List.set_cons_succ, List.getElem_toArray, List.getElem_cons_succ, List.getElem_cons_zero])
  refine wpAnyH_ready (rs := [0]) (by decide +kernel) (by simp) ?_
  refine AllReadyH.cons (o := _) rfl (fun K hK => ?_) AllReadyH.nil
  go_simp
  refine hK.out _ _ (by (try dsimp only); exact hHeld) (fun hNew => ?_); clear hK K; clear hHeld; have hHeld := hNew; clear hNew
  (try simp only [Act.put, List.setIfInBounds_toArray, List.set_cons_zero, List.set_cons_succ, List.getElem_toArray, List.getElem_cons_succ, List.getElem_cons_zero])
  refine wpAnyH_ready (rs := [9]) (by decide +kernel) (by simp) ?_
  refine AllReadyH.cons (o := _) rfl (fun K hK => ?_) AllReadyH.nil
  refine step_append_rc _ rfl _ _ _ rfl wB.heap.size 25 _ 1 16 Try.underlying34 Try.info25 rfl (by omega) v at_ (qYs f cl mu n GN Sc (fun _ => Z0) xs) rfl HG5.out.2.1 LA bb 0 n' kk _ rfl HLA.out (by rw [Nat.mul_one]; exact HRC.out) (by omega) (by omega) HG5.out.2.2.1.size ?_; intro v' w6 hor6 hgr hob hnn; obtain ⟨A9, g9, c9, rfl, _, _, _, _⟩ := hor6.shape3; have hb6 := But.of_grown hgr; have h216 := hb6.heap H215.out (fun hm => by have := (HG5.out.2.1.lt b21 (by simpa using hm)).1; omega); have c216 := (cell_of_row w6 b21 0 _ _ _ h216).trans (c := some v) rfl; have z216 := blk_free (i := 0) h216; have hn6 := hb6.heap HN5.out (fun hm => HG5.out.2.1.ne_tag HN5.out (by decide) bn (by simpa using hm) rfl); have hL6 := Lp.next HS5.out HG5.out HDD.out HPP.out HQQ.out hnd hk.2.2.2 ⟨hed, hep, heq⟩ hgr hor6 hob HN5.out (by omega); have HL6 := Lib.hid hL6; clear hL6 h216
  refine hK.out _ _ (by (try dsimp only); exact (cell_of_row w6 bn 0 _ _ _ hn6).trans rfl) (fun hNew => ?_); clear hK K; clear hHeld; have hHeld := hNew; clear hNew
  (try simp only [Act.put, List.setIfInBounds_toArray, List.set_cons_zero, List.set_cons_succ, List.getElem_toArray, List.getElem_cons_succ, List.getElem_cons_zero])
  refine wpAnyH_ready (rs := [10]) (by decide +kernel) (by simp) ?_
  refine AllReadyH.cons (o := _) rfl (fun K hK => ?_) AllReadyH.nil
  go_simp; go_wp2_with fail
  refine hK.out _ _ (by (try dsimp only); exact (cell_of_row _ bn 0 _ _ _ HL6.out.2).trans rfl) (fun hNew => ?_); clear hK K; clear hHeld; have hHeld := hNew; clear hNew
  (try simp only [Act.put, List.setIfInBounds_toArray, List.set_cons_zero, List.set_cons_succ, List.getElem_toArray, List.getElem_cons_succ, List.getElem_cons_zero])
  refine wpAnyH_done (by decide +kernel) ?_ _
  refine NoPanic.normal ?_; (try simp only [Exit.then]); refine HQ.out _ _ ⟨_, _, _, _, _, _, _, _, _, _, _, _, _, _, _, _, _, _, _, _, _, _, _, _, _, _, _, _, _, _, _, _, _, _, _, _, _, _, _, _, _, _, _, _, _, _, _, _, _, _, _, _, _, _, _, _, _, _, _, _, _, _, _, _, _, _, _, _, _, _, _, _, _, _, _, _, _, _, _, _, _, _, _, _, _, _, _, _, _, _, _, _, _, _, _, _, _, _, _, _, _, _, _, _, _, _, _, _, _, _, _, _, _, _, _, _, _, _, _, _, _, _, _, _, _, _, _, _, _, _, _, _, _, _, _, _, _, _, _, _, _, _, _, _, _, _, _, _, _, _, _, _, _, _, _, _, _, _, _, _, _, _, _, _, _, _, _, _, _, _, _, _, _, _, _, _, _, _, _, _, _, _, _, _, _, _, _, _, _, _, _, _, _, _, _, _, _, _, _, _, _, _, _, _, _, _, _, _, _, _, _, _, d, p, q, _, Ds, HL6.out, rfl⟩

end Go.Proofs.Ytnmpofjegepmaaa
