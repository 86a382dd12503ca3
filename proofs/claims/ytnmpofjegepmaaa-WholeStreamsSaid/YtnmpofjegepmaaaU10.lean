/- WholeStreams: the switch within a round. -/
import Derived.Test.YtnmpofjegepmaaaU7
import Derived.Deep.CutRange
import Derived.Deep.QuietTactic
import Derived.BigQuiet
namespace Go.Proofs.Ytnmpofjegepmaaa
open Go.RowKit Go.Shelf Go.Proofs.Ytnmpofjegepmaaa.Fl Go.Proofs.Ytnmpofjegepmaaa.Pt


attribute [local go_sem] Oper.semAt_some
set_option linter.unusedSimpArgs false in
set_option maxHeartbeats 2000000 in
set_option maxRecDepth 100000 in
theorem sw2_any (wB wN : World) (K V0 : Option Addr) (nc kc b12 gx M c vk b21 at_ I bn n' d0 p0 q0 n d p q : Nat) (f cl mu : Bool) (Sc xs : Nat → C) (v : Value) (Ds : List Nat) (r9 : Int) (u0 u1 u3 u4 u5 u6 u7 u8 u9 u10 u11 u13 u14 u17 u18 u19 u25 u26 u27 u28 u29 u30 u31 u32 u33 u34 u35 u36 u37 u38 u39 u40 u41 u42 u43 u44 u45 u46 u47 u48 u49 u50 u51 u52 u53 u54 u55 u56 u57 u58 u59 u60 u61 u62 u63 u64 u65 u66 u67 u68 u69 u70 u71 u72 u73 u74 u75 u76 u77 u78 u79 u80 u81 u82 u83 u84 u85 u86 u87 u88 u89 u90 u91 u92 u93 u94 u95 u96 u97 u98 u99 u100 u101 u102 u103 u104 u105 u106 u107 u108 u110 u111 u112 u113 u114 u115 u116 u117 u118 u119 u120 u121 u122 u123 u124 u125 u126 u127 u128 u129 u130 u131 u132 u133 u134 u135 u136 u137 u138 u139 u140 u141 u142 u143 u144 u145 u146 u147 u148 u149 u150 u151 u152 u153 u154 u155 u156 u157 u158 u159 u160 u161 u162 u163 u164 u165 u166 u167 u168 u169 u170 u171 u172 u173 u174 u176 u177 u178 u179 u180 u181 u182 u183 u184 u185 u186 u187 u188 u189 u190 u191 u192 u193 u194 u195 u196 u197 u198 u199 u200 u201 u202 u203 u204 u205 u206 u207 u208 u209 u210 u211 u212 u213 u214 u215 u216 u217 u218 u219 u220 : Value) (Q : Exit → Act → World → Prop)
    (hr9 : r9 = (I : Int) % 3) (h3 : I % 3 = 2)
    (hS : S0 wN d p q n f cl mu GN Sc xs at_) (hG : Gp wB wN d0 q0 b21 n f cl mu Sc xs at_ v [d, p, q] Ds) (hdd : d = d0 ∨ wB.heap.size ≤ d) (hpp : p = p0 ∨ wB.heap.size ≤ p) (hqq : q = q0 ∨ wB.heap.size ≤ q) (hnd : Ds.Nodup)
    (hn : wN.heap[bn]? = some (.cells #[.int .i64 (n' : Int)] 3 (0, 0))) (hnB : wB.heap.size ≤ bn) (hbd : bn ≠ d ∧ bn ≠ p ∧ bn ≠ q)
    (hk : d0 < b21 ∧ p0 < b21 ∧ q0 < b21 ∧ b21 < wB.heap.size) (hx : RC wN gx 0 M xs) (hgx : gx < b21 ∧ gx ≠ d ∧ gx ≠ q ∧ gx ≠ d0 ∧ gx ≠ q0) (m1 : at_ + n' ≤ M) (m2 : n' ≤ 7) (hM : M ≤ 300) (hMc : M ≤ c) (hlt : at_ < M)
    (hcan : ∀ j, j < n * 5 → wf (Sc j) ∧ ccn (Sc j) = Sc j) (hfin : ∀ j, j < n * 5 → FinC (Sc j)) (hn4 : n ≤ 4)
    (hvv : v = .slice none 0 0 ∧ at_ = 0 ∨ ∃ g cap, v = .slice (some ⟨g, 0, none⟩) at_ cap)
    (hQ : ∀ a' w', SwP wB K V0 nc kc b12 gx M c vk b21 at_ I bn n' d0 p0 q0 n f cl mu Sc xs a' w' → Q .normal a' w') :
    Code.wp Try.prog sw Q { tmps := #[u0, u1, .slice K nc kc, u3, u4, u5, u6, u7, u8, u9, u10, u11, .pointer (some ⟨b12, 0, none⟩), u13, u14, .slice (some ⟨gx, 0, none⟩) M c, .pointer (some ⟨d, 0, none⟩), u17, u18, u19, .slice V0 M vk, .pointer (some ⟨b21, 0, none⟩), .int .i64 (at_ : Int), .int .i64 (I : Int), .pointer (some ⟨bn, 0, none⟩), u25, u26, u27, u28, u29, u30, u31, u32, u33, u34, u35, u36, u37, u38, u39, u40, u41, u42, u43, u44, u45, u46, u47, u48, u49, u50, u51, u52, u53, u54, u55, u56, u57, u58, u59, u60, u61, u62, u63, u64, u65, u66, u67, u68, u69, u70, u71, u72, u73, u74, u75, u76, u77, u78, u79, u80, u81, u82, u83, u84, u85, u86, u87, u88, u89, u90, u91, u92, u93, u94, u95, u96, u97, u98, u99, u100, u101, u102, u103, u104, u105, u106, u107, u108, .int .i64 r9, u110, u111, u112, u113, u114, u115, u116, u117, u118, u119, u120, u121, u122, u123, u124, u125, u126, u127, u128, u129, u130, u131, u132, u133, u134, u135, u136, u137, u138, u139, u140, u141, u142, u143, u144, u145, u146, u147, u148, u149, u150, u151, u152, u153, u154, u155, u156, u157, u158, u159, u160, u161, u162, u163, u164, u165, u166, u167, u168, u169, u170, u171, u172, u173, u174, .bool false, u176, u177, u178, u179, u180, u181, u182, u183, u184, u185, u186, u187, u188, u189, u190, u191, u192, u193, u194, u195, u196, u197, u198, u199, u200, u201, u202, u203, u204, u205, u206, u207, u208, u209, u210, u211, u212, u213, u214, u215, u216, u217, u218, u219, u220], defers := marks Ds } wN := by
  conv => arg 2; whnf
  have hed : b21 ≠ d := by rcases hdd with h | h <;> omega
  have hep : b21 ≠ p := by rcases hpp with h | h <;> omega
  have heq : b21 ≠ q := by rcases hqq with h | h <;> omega
  have HDD := Lib.hid hdd
  have HPP := Lib.hid hpp
  have HQQ := Lib.hid hqq
  have HQ := Lib.hid hQ
  have HN4 := Lib.hid hn4
  have HVV := Lib.hid hvv
  clear hdd hpp hqq hQ hvv
  have hdl := hS.dl
  have hpl := hS.pl
  have hql := hS.ql
  have hB21 := hG.1
  have c21 : wN.cell? ⟨b21, 0, none⟩ = some v := by rw [cell_of_row wN b21 0 _ _ _ hB21]; rfl
  have cbn : wN.cell? ⟨bn, 0, none⟩ = some (.int .i64 (n' : Int)) := by rw [cell_of_row wN bn 0 _ _ _ hn]; rfl
  have hbnl : bn < wN.heap.size := (Array.getElem?_eq_some_iff.1 hn).1
  have hB21l : b21 < wN.heap.size := (Array.getElem?_eq_some_iff.1 hB21).1
  have hxc : RC wN gx at_ n' (fun j => xs (at_ + j)) := by
    have := hx.cut (i := at_) (n := n') (by omega)
    rwa [Nat.zero_add] at this
  have HX := Lib.hid hx
  have HXC := Lib.hid hxc
  have H21 := Lib.hid hB21
  have HN := Lib.hid hn
  have HS := Lib.hid hS
  have HG := Lib.hid hG
  have HCAN := Lib.hid hcan
  have HFIN := Lib.hid hfin
  clear hx hxc hB21 hn hS hG hcan hfin
  have e6 : IntKind.i64.wrap ((at_ : Int) + n') = (at_ : Int) + n' := by rw [IntKind.wrap_i64]; omega
  have c21d := (But.refl [] wN).drew.cell c21 (by simp)
  have hnD : d ∉ Ds ∧ q ∉ Ds := ⟨fun hm => (stm_nodef HS.out (HG.out.2.2.2.2 _ hm).2).1 rfl, fun hm => (stm_nodef HS.out (HG.out.2.2.2.2 _ hm).2).2 rfl⟩
  have hdq0 : (d < wB.heap.size → d = d0) ∧ (q < wB.heap.size → q = q0) := ⟨fun h => HDD.out.elim id (fun h' => by omega), fun h => HQQ.out.elim id (fun h' => by omega)⟩
  have q1 : (at_ : Int) + n' ≤ M := by omega
  have q6 : (at_ : Int) + n' ≤ c := by omega
  have q7 : at_ ≤ at_ + n' := by omega
  have q8 : at_ + n' - at_ = n' := by omega
  have q2 : (0 : Int) ≤ (at_ : Int) + n' := by omega
  have q3 : ((at_ : Int) + n').toNat = at_ + n' := by omega
  have q4 : (at_ : Int) ≤ (at_ : Int) + n' := by omega
  have q5 : ¬ c = at_ := by omega
  have t3 : (r9 == 1) = false := by simp; omega
  have hgn : wf GN ∧ ccn GN = GN := ⟨by simp [wf, GN], by decide +kernel⟩
  have hgf : FinC GN := by unfold FinC; decide +kernel
  have hsta := rc_canon HS.out.sta.rc
  go_upto_region 26 with (first
    | (go_at_call 41; refine (ssave_any d p q n f cl mu at_ _ GN Sc _ _ HS.out).mono ?_; rintro e w1 ⟨sb, sc, rfl, hsb, hy1, hb1, hsc⟩)
    | (go_at_call 44; refine (sload_any sb n sc f cl mu at_ _ GN Sc _ _ (by omega) hgn hgf HCAN.out HFIN.out hsta (by omega) (cnt_lt _ _) hsc hy1).mono ?_; rintro e w2 ⟨dr, pr, qr, rfl, hdr, hpr, hqr, hR2, hb2⟩)
    | (go_at_call 45; refine (sfork_any d p q n f cl mu at_ _ GN Sc _ _ ((HS.out.keep hb1 (by simp) (by simp) (by simp)).keep hb2 (by simp) (by simp) (by simp))).mono ?_; rintro e w3 ⟨dk, pk, qk, rfl, hdk, hpk, hqk, hK3, hb3⟩))
  have hb13 : But [] wN w3 := (hb1.trans hb2).trans hb3
  obtain ⟨L, hLe⟩ : ∃ L, L = svd f cl mu n at_ (cnt 0 (qNs f cl mu n GN Sc (fun _ => Z0) xs at_)) GN Sc (qSs f cl mu n GN Sc (fun _ => Z0) xs at_) := ⟨_, rfl⟩
  have hLl : L.length = 38 + 112 * n := by rw [hLe]; exact svd_len _ _ _ _ _ _ _ _ _
  have hLt : ∀ x ∈ L, x < 256 := by rw [hLe]; exact svd_lt (by omega)
  have hy3 : Byt w3 sb L := by rw [hLe]; exact Byt.keep (Byt.keep hy1 hb2 (by simp)) hb3 (by simp)
  clear hy1
  have eR2 := hR2.dl
  have eR2q := hR2.ql
  have eR2p := hR2.pl
  have HR3 := Lib.hid (hR2.keep hb3 (by simp) (by simp) (by simp))
  have HK3 := Lib.hid hK3
  clear hR2 hK3
  refine wp_region_noPanic ?_
  refine wp_region_held_drew (S := fun w' => Byt w' sb L) (by kernel_rfl) ?_ (fun hHeld => ?_)
  · (try dsimp only); exact hy3.keep (But.refl [] w3).drew (by simp)
  (refine wpAnyH_take (i := 0) (oi := _) (v := _) rfl (by decide +kernel) (by decide +kernel) (by decide +kernel) (fun _ _ _ h => h) (Or.inl ⟨by rfl, by (intro w hSw; (try dsimp only at hSw); go_simp; try with_reducible rfl)⟩) (by assumption) ?_; (try simp only [Act.put, List.setIfInBounds_toArray, List.set_cons_zero, List.set_cons_succ, List.getElem_toArray, List.getElem_cons_succ, List.getElem_cons_zero]))
  (refine wpAnyH_take (i := 1) (oi := _) (v := _) rfl (by decide +kernel) (by decide +kernel) (by decide +kernel) (fun _ _ _ h => h) (Or.inl ⟨by rfl, by (intro w hSw; (try dsimp only at hSw); go_simp; try with_reducible rfl)⟩) (by assumption) ?_; (try simp only [Act.put, List.setIfInBounds_toArray, List.set_cons_zero, List.set_cons_succ, List.getElem_toArray, List.getElem_cons_succ, List.getElem_cons_zero]))
  (refine wpAnyH_take (i := 2) (oi := _) (v := _) rfl (by decide +kernel) (by decide +kernel) (by decide +kernel) (fun _ _ _ h => h) (Or.inl ⟨by rfl, by (intro w hSw; (try dsimp only at hSw); go_simp; try with_reducible rfl)⟩) (by assumption) ?_; (try simp only [Act.put, List.setIfInBounds_toArray, List.set_cons_zero, List.set_cons_succ, List.getElem_toArray, List.getElem_cons_succ, List.getElem_cons_zero]))
  (refine wpAnyH_take (i := 3) (oi := _) (v := _) rfl (by decide +kernel) (by decide +kernel) (by decide +kernel) (fun _ _ _ h => h) (Or.inl ⟨by rfl, by (intro w hSw; (try dsimp only at hSw); go_simp; try with_reducible rfl)⟩) (by assumption) ?_; (try simp only [Act.put, List.setIfInBounds_toArray, List.set_cons_zero, List.set_cons_succ, List.getElem_toArray, List.getElem_cons_succ, List.getElem_cons_zero]))
  (refine wpAnyH_take (i := 4) (oi := _) (v := _) rfl (by decide +kernel) (by decide +kernel) (by decide +kernel) (fun _ _ _ h => h) (Or.inl ⟨by rfl, by (intro w hSw; (try dsimp only at hSw); go_simp; try with_reducible rfl)⟩) (by assumption) ?_; (try simp only [Act.put, List.setIfInBounds_toArray, List.set_cons_zero, List.set_cons_succ, List.getElem_toArray, List.getElem_cons_succ, List.getElem_cons_zero]))
  (refine wpAnyH_take (i := 5) (oi := _) (v := _) rfl (by decide +kernel) (by decide +kernel) (by decide +kernel) (fun _ _ _ h => h) (Or.inl ⟨by rfl, by (intro w hSw; (try dsimp only at hSw); go_simp; try with_reducible rfl)⟩) (by assumption) ?_; (try simp only [Act.put, List.setIfInBounds_toArray, List.set_cons_zero, List.set_cons_succ, List.getElem_toArray, List.getElem_cons_succ, List.getElem_cons_zero]))
  (refine wpAnyH_take (i := 6) (oi := _) (v := _) rfl (by decide +kernel) (by decide +kernel) (by decide +kernel) (fun _ _ _ h => h) (Or.inl ⟨by rfl, by (intro w hSw; (try dsimp only at hSw); go_simp; try with_reducible rfl)⟩) (by assumption) ?_; (try simp only [Act.put, List.setIfInBounds_toArray, List.set_cons_zero, List.set_cons_succ, List.getElem_toArray, List.getElem_cons_succ, List.getElem_cons_zero]))
  (refine wpAnyH_take (i := 7) (oi := _) (v := _) rfl (by decide +kernel) (by decide +kernel) (by decide +kernel) (fun _ _ _ h => h) (Or.inl ⟨by rfl, by (intro w hSw; (try dsimp only at hSw); go_simp; try with_reducible rfl)⟩) (by assumption) ?_; (try simp only [Act.put, List.setIfInBounds_toArray, List.set_cons_zero, List.set_cons_succ, List.getElem_toArray, List.getElem_cons_succ, List.getElem_cons_zero]))
  (refine wpAnyH_take (i := 8) (oi := _) (v := _) rfl (by decide +kernel) (by decide +kernel) (by decide +kernel) (fun _ _ _ h => h) (Or.inl ⟨by rfl, by (intro w hSw; (try dsimp only at hSw); go_simp; try with_reducible rfl)⟩) (by assumption) ?_; (try simp only [Act.put, List.setIfInBounds_toArray, List.set_cons_zero, List.set_cons_succ, List.getElem_toArray, List.getElem_cons_succ, List.getElem_cons_zero]))
  (refine wpAnyH_take (i := 9) (oi := _) (v := _) rfl (by decide +kernel) (by decide +kernel) (by decide +kernel) (fun _ _ _ h => h) (Or.inl ⟨by rfl, by (intro w hSw; (try dsimp only at hSw); go_simp; try with_reducible rfl)⟩) (by assumption) ?_; (try simp only [Act.put, List.setIfInBounds_toArray, List.set_cons_zero, List.set_cons_succ, List.getElem_toArray, List.getElem_cons_succ, List.getElem_cons_zero]))
  (refine wpAnyH_take (i := 10) (oi := _) (v := _) rfl (by decide +kernel) (by decide +kernel) (by decide +kernel) (fun _ _ _ h => h) (Or.inl ⟨by rfl, by (intro w hSw; (try dsimp only at hSw); go_simp; try with_reducible rfl)⟩) (by assumption) ?_; (try simp only [Act.put, List.setIfInBounds_toArray, List.set_cons_zero, List.set_cons_succ, List.getElem_toArray, List.getElem_cons_succ, List.getElem_cons_zero]))
  (refine wpAnyH_take (i := 11) (oi := _) (v := _) rfl (by decide +kernel) (by decide +kernel) (by decide +kernel) (fun _ _ _ h => h) (Or.inl ⟨by rfl, by (intro w hSw; (try dsimp only at hSw); go_simp; try with_reducible rfl)⟩) (by assumption) ?_; (try simp only [Act.put, List.setIfInBounds_toArray, List.set_cons_zero, List.set_cons_succ, List.getElem_toArray, List.getElem_cons_succ, List.getElem_cons_zero]))
  (refine wpAnyH_take (i := 14) (oi := _) (v := _) rfl (by decide +kernel) (by decide +kernel) (by decide +kernel) (fun _ _ _ h => h) (Or.inl ⟨by rfl, by (intro w hSw; (try dsimp only at hSw); go_simp; try with_reducible rfl)⟩) (by assumption) ?_; (try simp only [Act.put, List.setIfInBounds_toArray, List.set_cons_zero, List.set_cons_succ, List.getElem_toArray, List.getElem_cons_succ, List.getElem_cons_zero]))
  (refine wpAnyH_take (i := 15) (oi := _) (v := _) rfl (by decide +kernel) (by decide +kernel) (by decide +kernel) (fun _ _ _ h => h) (Or.inl ⟨by rfl, by (intro w hSw; have hcv := byt_conv (cap := sc) hSw hLl hLt; go_simp; try with_reducible rfl)⟩) (by assumption) ?_; (try simp only [Act.put, List.setIfInBounds_toArray, List.set_cons_zero, List.set_cons_succ, List.getElem_toArray, List.getElem_cons_succ, List.getElem_cons_zero]))
  refine wpAnyH_ready (rs := [12]) (by decide +kernel) (by simp) ?_
  refine AllReadyH.cons (o := _) rfl (fun K hK => ?_) AllReadyH.nil
  go_simp; go_at_call 41; refine (ssave_any dr pr qr n f cl mu at_ _ GN Sc _ _ (HR3.out.keep (But.refl [] _).drew (by simp) (by simp) (by simp))).mono ?_; rintro e w4 ⟨w4b, w4c, rfl, hw4b, hw4y, hbw4, _⟩; have hw4L : Byt w4 w4b L := (by rw [hLe]; exact hw4y); clear hw4y; have hqw4 : But [] w3 w4 := (But.refl [] w3).drew.trans hbw4; go_wp2_with fail
  refine hK.out _ _ (by (try dsimp only); exact hy3.keep hqw4 (by simp)) (fun hNew => ?_); clear hK K; clear hHeld; have hHeld := hNew; clear hNew
  (try simp only [Act.put, List.setIfInBounds_toArray, List.set_cons_zero, List.set_cons_succ, List.getElem_toArray, List.getElem_cons_succ, List.getElem_cons_zero])
  refine wpAnyH_ready (rs := [13]) (by decide +kernel) (by simp) ?_
  refine AllReadyH.cons (o := _) rfl (fun K hK => ?_) AllReadyH.nil
  have hcv := byt_conv (cap := w4c) hw4L hLl hLt; go_simp; (try go_wp2_with fail)
  refine hK.out _ _ (by (try dsimp only); exact hHeld) (fun hNew => ?_); clear hK K; clear hHeld; have hHeld := hNew; clear hNew
  (try simp only [Act.put, List.setIfInBounds_toArray, List.set_cons_zero, List.set_cons_succ, List.getElem_toArray, List.getElem_cons_succ, List.getElem_cons_zero])
  (refine wpAnyH_take (i := 16) (oi := _) (v := _) rfl (by decide +kernel) (by decide +kernel) (by decide +kernel) (fun _ _ _ h => h) (Or.inl ⟨by rfl, by (intro w hSw; (try dsimp only at hSw); go_simp; try with_reducible rfl)⟩) (by assumption) ?_; (try simp only [Act.put, List.setIfInBounds_toArray, List.set_cons_zero, List.set_cons_succ, List.getElem_toArray, List.getElem_cons_succ, List.getElem_cons_zero]))
  (refine wpAnyH_take (i := 17) (oi := _) (v := _) rfl (by decide +kernel) (by decide +kernel) (by decide +kernel) (fun _ _ _ h => h) (Or.inl ⟨by rfl, by (intro w hSw; (try dsimp only at hSw); go_simp; try with_reducible rfl)⟩) (by assumption) ?_; (try simp only [Act.put, List.setIfInBounds_toArray, List.set_cons_zero, List.set_cons_succ, List.getElem_toArray, List.getElem_cons_succ, List.getElem_cons_zero]))
  (refine wpAnyH_take (i := 18) (oi := _) (v := _) rfl (by decide +kernel) (by decide +kernel) (by decide +kernel) (fun _ _ _ h => h) (Or.inl ⟨by rfl, by (intro w hSw; (try dsimp only at hSw); go_simp; try with_reducible rfl)⟩) (by assumption) ?_; (try simp only [Act.put, List.setIfInBounds_toArray, List.set_cons_zero, List.set_cons_succ, List.getElem_toArray, List.getElem_cons_succ, List.getElem_cons_zero]))
  (refine wpAnyH_take (i := 19) (oi := _) (v := _) rfl (by decide +kernel) (by decide +kernel) (by decide +kernel) (fun _ _ _ h => h) (Or.inl ⟨by rfl, by (intro w hSw; (try dsimp only at hSw); go_simp; try with_reducible rfl)⟩) (by assumption) ?_; (try simp only [Act.put, List.setIfInBounds_toArray, List.set_cons_zero, List.set_cons_succ, List.getElem_toArray, List.getElem_cons_succ, List.getElem_cons_zero]))
  (refine wpAnyH_take (i := 22) (oi := _) (v := _) rfl (by decide +kernel) (by decide +kernel) (by decide +kernel) (fun _ _ _ h => h) (Or.inl ⟨by rfl, by (intro w hSw; (try dsimp only at hSw); go_simp; try with_reducible rfl)⟩) (by assumption) ?_; (try simp only [Act.put, List.setIfInBounds_toArray, List.set_cons_zero, List.set_cons_succ, List.getElem_toArray, List.getElem_cons_succ, List.getElem_cons_zero]))
  (refine wpAnyH_take (i := 23) (oi := _) (v := _) rfl (by decide +kernel) (by decide +kernel) (by decide +kernel) (fun _ _ _ h => h) (Or.inl ⟨by rfl, by (intro w hSw; have hcv := byt_conv (cap := sc) hSw hLl hLt; go_simp; try with_reducible rfl)⟩) (by assumption) ?_; (try simp only [Act.put, List.setIfInBounds_toArray, List.set_cons_zero, List.set_cons_succ, List.getElem_toArray, List.getElem_cons_succ, List.getElem_cons_zero]))
  refine wpAnyH_ready (rs := [20]) (by decide +kernel) (by simp) ?_
  refine AllReadyH.cons (o := _) rfl (fun K hK => ?_) AllReadyH.nil
  go_simp; go_at_call 41; refine (ssave_any dk pk qk n f cl mu at_ _ GN Sc _ _ (HK3.out.keep hqw4 (by simp) (by simp) (by simp))).mono ?_; rintro e w5 ⟨w5b, w5c, rfl, hw5b, hw5y, hbw5, _⟩; have hw5L : Byt w5 w5b L := (by rw [hLe]; exact hw5y); clear hw5y; have hqw5 : But [] w3 w5 := hqw4.trans hbw5; go_wp2_with fail
  refine hK.out _ _ (by (try dsimp only); exact hy3.keep hqw5 (by simp)) (fun hNew => ?_); clear hK K; clear hHeld; have hHeld := hNew; clear hNew
  (try simp only [Act.put, List.setIfInBounds_toArray, List.set_cons_zero, List.set_cons_succ, List.getElem_toArray, List.getElem_cons_succ, List.getElem_cons_zero])
  refine wpAnyH_ready (rs := [21]) (by decide +kernel) (by simp) ?_
  refine AllReadyH.cons (o := _) rfl (fun K hK => ?_) AllReadyH.nil
  have hcv := byt_conv (cap := w5c) hw5L hLl hLt; go_simp; (try go_wp2_with fail)
  refine hK.out _ _ (by (try dsimp only); exact hHeld) (fun hNew => ?_); clear hK K; clear hHeld; have hHeld := hNew; clear hNew
  (try simp only [Act.put, List.setIfInBounds_toArray, List.set_cons_zero, List.set_cons_succ, List.getElem_toArray, List.getElem_cons_succ, List.getElem_cons_zero])
  (refine wpAnyH_take (i := 24) (oi := _) (v := _) rfl (by decide +kernel) (by decide +kernel) (by decide +kernel) (fun _ _ _ h => h) (Or.inl ⟨by rfl, by (intro w hSw; (try dsimp only at hSw); go_simp; try with_reducible rfl)⟩) (by assumption) ?_; (try simp only [Act.put, List.setIfInBounds_toArray, List.set_cons_zero, List.set_cons_succ, List.getElem_toArray, List.getElem_cons_succ, List.getElem_cons_zero]))
  (refine wpAnyH_take (i := 25) (oi := _) (v := _) rfl (by decide +kernel) (by decide +kernel) (by decide +kernel) (fun _ _ _ h => h) (Or.inl ⟨by rfl, by (intro w hSw; (try dsimp only at hSw); go_simp; try with_reducible rfl)⟩) (by assumption) ?_; (try simp only [Act.put, List.setIfInBounds_toArray, List.set_cons_zero, List.set_cons_succ, List.getElem_toArray, List.getElem_cons_succ, List.getElem_cons_zero]))
  refine wpAnyH_done (by decide +kernel) ?_ _
  refine NoPanic.normal ?_; (try simp only [Exit.then])
  go_upto_region 30 with (go_at_call 42; refine (spush_any d p q n M gx 0 _ _ (fun _ => rfl) f cl mu at_ _ (by omega) (cnt_lt _ _) (by omega) GN Sc _ xs _ ((HS.out.keep hb13 (by simp) (by simp) (by simp)).keep hqw5 (by simp) (by simp) (by simp)) ((HX.out.keep hb13 (by simp)).keep hqw5 (by simp))).mono ?_; rintro e w6 ⟨LA, bb, kk, rfl, hLA, hrc, hbb, hsk, hb6⟩)
  have h5s := hqw5.size
  have h1s := hb1.size
  have h2s := hb2.size
  have h3s := hb3.size
  have h13 := hb13.size
  have h6s := hb6.size
  have hN5 : But [] wN w5 := hb13.trans hqw5
  have eR := HR3.out.dl
  have eRq := HR3.out.ql
  have eRp := HR3.out.pl
  have eK := HK3.out.dl
  have eKq := HK3.out.ql
  have eKp := HK3.out.pl
  have hR6 := (HR3.out.keep hqw5 (by simp) (by simp) (by simp)).keep hb6 (by simp; omega) (by simp; omega) (by simp; omega)
  have hK6 := (HK3.out.keep hqw5 (by simp) (by simp) (by simp)).keep hb6 (by simp; omega) (by simp; omega) (by simp; omega)
  have hG6 : Gp wB w6 d0 q0 b21 n f cl mu Sc xs at_ v [d, p, q, dr, pr, qr, dk, pk, qk] Ds := by
    refine ((HG.out.ex (Ex' := [d, p, q, dr, pr, qr, dk, pk, qk]) (fun e he => ?_)).new hN5).keep hb6 (fun i hi => ?_)
    · simp at he
      rcases he with rfl | rfl | rfl | rfl | rfl | rfl | rfl | rfl | rfl
      · exact .inl (by simp)
      · exact .inl (by simp)
      · exact .inl (by simp)
      · exact .inr (by omega)
      · exact .inr (by omega)
      · exact .inr (by omega)
      · exact .inr (by omega)
      · exact .inr (by omega)
      · exact .inr (by omega)
    · simp at hi
      rcases hi with rfl | rfl
      · exact ⟨by simp, hnD.1, fun e => hed e.symm, fun h => .inl (hdq0.1 h)⟩
      · exact ⟨by simp, hnD.2, fun e => heq e.symm, fun h => .inr (hdq0.2 h)⟩
  have hn6 := hb6.heap (hN5.heap HN.out (by simp)) (by simp; omega)
  have hx6 := (HX.out.keep hN5 (by simp)).keep hb6 (by simp; omega)
  have hDl : ∀ D ∈ Ds, D < wN.heap.size := fun D hD => (Array.getElem?_eq_some_iff.1 (HG.out.2.2.2.2 D hD).2).1
  clear hrc hsk hLA hcv hw4L hw5L
  have hxc6 : RC w6 gx at_ n' (fun j => xs (at_ + j)) := by
    have := hx6.cut (i := at_) (n := n') (by omega)
    rwa [Nat.zero_add] at this
  have c216 : w6.cell? ⟨b21, 0, none⟩ = some v := by rw [cell_of_row w6 b21 0 _ _ _ hG6.1]; rfl
  have c216d := (But.refl [] w6).drew.cell c216 (by simp)
  have cbn6 : w6.cell? ⟨bn, 0, none⟩ = some (.int .i64 (n' : Int)) := by rw [cell_of_row w6 bn 0 _ _ _ hn6]; rfl
  have GR6 := Lib.hid hR6
  have GK6 := Lib.hid hK6
  have GG6 := Lib.hid hG6
  have GN6 := Lib.hid hn6
  have GX6 := Lib.hid hx6
  have GC6 := Lib.hid hxc6
  have hlow : wN.heap.size ≤ dr ∧ wN.heap.size ≤ pr ∧ wN.heap.size ≤ qr ∧ wN.heap.size ≤ dk ∧ wN.heap.size ≤ pk ∧ wN.heap.size ≤ qk := by omega
  have hrk : dk ≠ dr ∧ dk ≠ qr ∧ pk ≠ dr ∧ pk ≠ qr ∧ qk ≠ dr ∧ qk ≠ qr ∧ pr ≠ dk ∧ pr ≠ qk := by omega
  have hup : dr < w6.heap.size ∧ pr < w6.heap.size ∧ qr < w6.heap.size ∧ dk < w6.heap.size ∧ pk < w6.heap.size ∧ qk < w6.heap.size ∧ d < w6.heap.size ∧ p < w6.heap.size ∧ q < w6.heap.size := by omega
  have hwB := hG6.2.2.1.size
  have hBN : wB.heap.size ≤ wN.heap.size := HG.out.2.2.1.size
  clear hR6 hK6 hG6 hn6 hx6 hxc6 hb1 hb2 hb3 hb13 hqw4 hqw5 hb6 hN5 hy3 hdr hpr hqr hdk hpk hqk eR eRq eRp eK eKq eKp h5s h1s h2s h3s h13 h6s HR3 HK3 hsta hsc hsb
  go_cut [] from 149 to 158 (fun wx => ∃ v' : Value, S0 wx dr pr qr n f cl mu GN Sc xs (at_ + n') ∧ Gp wB wx d0 q0 b21 n f cl mu Sc xs (at_ + n') v' [d, p, q, dr, pr, qr, dk, pk, qk] Ds ∧ S0 wx dk pk qk n f cl mu GN Sc xs at_ ∧ wx.heap[bn]? = some (.cells #[.int .i64 (n' : Int)] 3 (0, 0)) ∧ RC wx gx 0 M xs)
  case first =>
    refine wp_region_noPanic ?_
    refine wp_region_held_drew (S := fun w' => w'.cell? ⟨bn, 0, none⟩ = some (.int .i64 (n' : Int))) (by kernel_rfl) ?_ (fun hHeld => ?_)
    · (try dsimp only); exact (But.refl [] _).drew.cell cbn6 (by simp)
    (refine wpAnyH_take (i := 1) (oi := _) (v := _) rfl (by decide +kernel) (by decide +kernel) (by decide +kernel) (fun _ _ _ h => h) (Or.inl ⟨by rfl, by (intro w hSw; (try dsimp only at hSw); go_simp; try with_reducible rfl)⟩) (by assumption) ?_; (try simp only [Act.put, List.setIfInBounds_toArray, List.set_cons_zero, List.set_cons_succ, List.getElem_toArray, List.getElem_cons_succ, List.getElem_cons_zero]))
    (refine wpAnyH_take (i := 2) (oi := _) (v := _) rfl (by decide +kernel) (by decide +kernel) (by decide +kernel) (fun _ _ _ h => h) (Or.inl ⟨by rfl, by (intro w hSw; (try dsimp only at hSw); go_simp; try with_reducible rfl)⟩) (by assumption) ?_; (try simp only [Act.put, List.setIfInBounds_toArray, List.set_cons_zero, List.set_cons_succ, List.getElem_toArray, List.getElem_cons_succ, List.getElem_cons_zero]))
    (refine wpAnyH_take (i := 3) (oi := _) (v := _) rfl (by decide +kernel) (by decide +kernel) (by decide +kernel) (fun _ _ _ h => h) (Or.inl ⟨by rfl, by (intro w hSw; (try dsimp only at hSw); go_simp; try with_reducible rfl)⟩) (by assumption) ?_; (try simp only [Act.put, List.setIfInBounds_toArray, List.set_cons_zero, List.set_cons_succ, List.getElem_toArray, List.getElem_cons_succ, List.getElem_cons_zero]))
    (refine wpAnyH_take (i := 4) (oi := _) (v := _) rfl (by decide +kernel) (by decide +kernel) (by decide +kernel) (fun _ _ _ h => h) (Or.inl ⟨by rfl, by (intro w hSw; (try dsimp only at hSw); go_simp; try with_reducible rfl)⟩) (by assumption) ?_; (try simp only [Act.put, List.setIfInBounds_toArray, List.set_cons_zero, List.set_cons_succ, List.getElem_toArray, List.getElem_cons_succ, List.getElem_cons_zero]))
    (refine wpAnyH_take (i := 5) (oi := _) (v := _) rfl (by decide +kernel) (by decide +kernel) (by decide +kernel) (fun _ _ _ h => h) (Or.inl ⟨by rfl, by (intro w hSw; (try dsimp only at hSw); go_simp; try with_reducible rfl)⟩) (by assumption) ?_; (try simp only [Act.put, List.setIfInBounds_toArray, List.set_cons_zero, List.set_cons_succ, List.getElem_toArray, List.getElem_cons_succ, List.getElem_cons_zero]))
    (refine wpAnyH_take (i := 6) (oi := _) (v := _) rfl (by decide +kernel) (by decide +kernel) (by decide +kernel) (fun _ _ _ h => h) (Or.inl ⟨by rfl, by (intro w hSw; (try dsimp only at hSw); go_simp; try with_reducible rfl)⟩) (by assumption) ?_; (try simp only [Act.put, List.setIfInBounds_toArray, List.set_cons_zero, List.set_cons_succ, List.getElem_toArray, List.getElem_cons_succ, List.getElem_cons_zero]))
    (refine wpAnyH_take (i := 7) (oi := _) (v := _) rfl (by decide +kernel) (by decide +kernel) (by decide +kernel) (fun _ _ _ h => h) (Or.inl ⟨by rfl, by (intro w hSw; (try dsimp only at hSw); go_simp; try with_reducible rfl)⟩) (by assumption) ?_; (try simp only [Act.put, List.setIfInBounds_toArray, List.set_cons_zero, List.set_cons_succ, List.getElem_toArray, List.getElem_cons_succ, List.getElem_cons_zero]))
    refine wpAnyH_ready (rs := [0, 8]) (by decide +kernel) (by simp) ?_
    refine AllReadyH.cons (o := _) rfl (fun K hK => ?_) ?_
    · go_simp
      refine hK.out _ _ (by (try dsimp only); exact hHeld) (fun hNew => ?_); clear hK K; clear hHeld; have hHeld := hNew; clear hNew
      (try simp only [Act.put, List.setIfInBounds_toArray, List.set_cons_zero, List.set_cons_succ, List.getElem_toArray, List.getElem_cons_succ, List.getElem_cons_zero])
      refine wpAnyH_ready (rs := [8]) (by decide +kernel) (by simp) ?_
      refine AllReadyH.cons (o := _) rfl (fun K hK => ?_) AllReadyH.nil
      go_simp; go_at_call 42; refine (spush_any dr pr qr n n' gx at_ _ _ (fun _ => rfl) f cl mu at_ _ (by omega) (cnt_lt _ _) (by omega) GN Sc _ (fun j => xs (at_ + j)) _ (GR6.out.keep (But.refl [] _).drew (by simp) (by simp) (by simp)) (GC6.out.keep (But.refl [] _).drew (by simp))).mono ?_; rintro e w7 ⟨LA, bb, kk, rfl, hLA, hrc, hbb, hsk, hbP⟩; have hbD : But [dr, qr] w6 w7 := (But.refl _ _).drew.trans hbP; have HLA := Lib.hid hLA; clear hLA; have c217 := hbD.cell c216 (by simp; omega); have h217 := hbD.heap GG6.out.1 (by simp; omega); have hn7 := hbD.heap GN6.out (by simp; omega); have hG7 := GG6.out.keep hbD (fun i hi => by simp at hi; rcases hi with rfl | rfl; exact ⟨by simp, fun hm => by (have := hDl _ hm; omega), by omega, fun h => by omega⟩; exact ⟨by simp, fun hm => by (have := hDl _ hm; omega), by omega, fun h => by omega⟩); have hS7 := stk_next hsk (by omega); have hK7 := GK6.out.keep hbD (by simp; omega) (by simp; omega) (by simp; omega); have hx7 := GX6.out.keep hbD (by simp; omega); have HRC := Lib.hid (hrc.congr (ys := fun j => qYs f cl mu n GN Sc (fun _ => Z0) xs (at_ + j)) (fun j _ => qYs_add _ _ _ _ _ _ _ _ _ _)); have H217 := Lib.hid h217; have HN7 := Lib.hid hn7; have HG7 := Lib.hid hG7; have HS7 := Lib.hid hS7; have HK7 := Lib.hid hK7; have HX7 := Lib.hid hx7; have s67 := hbD.size; clear hrc hG7 hS7 h217 hn7 hK7 hx7 hsk; go_wp2_with fail
      refine hK.out _ _ (by (try dsimp only); exact hbD.cell cbn6 (by simp; omega)) (fun hNew => ?_); clear hK K; clear hHeld; have hHeld := hNew; clear hNew
      (try simp only [Act.put, List.setIfInBounds_toArray, List.set_cons_zero, List.set_cons_succ, List.getElem_toArray, List.getElem_cons_succ, List.getElem_cons_zero])
      refine wpAnyH_ready (rs := [9]) (by decide +kernel) (by simp) ?_
      refine AllReadyH.cons (o := _) rfl (fun K hK => ?_) AllReadyH.nil
      refine step_append_rc _ rfl _ _ _ rfl wB.heap.size 25 _ 1 16 Try.underlying34 Try.info25 rfl (by omega) v at_ (qYs f cl mu n GN Sc (fun _ => Z0) xs) rfl HG7.out.2.1 LA bb 0 n' kk _ rfl HLA.out (by rw [Nat.mul_one]; exact HRC.out) (by omega) (by omega) HG7.out.2.2.1.size ?_; intro v' w8 hor8 hgr hob hnn; obtain ⟨A9, g9, c9, rfl, _, _, _, _⟩ := hor8.shape3; have hb8 := But.of_grown hgr; have h218 := hb8.heap H217.out (fun hm => by have := (HG7.out.2.1.lt b21 (by simpa using hm)).1; omega); have c218 := (cell_of_row w8 b21 0 _ _ _ h218).trans (c := some v) rfl; have z218 := blk_free (i := 0) h218; have hn8 := hb8.heap HN7.out (fun hm => HG7.out.2.1.ne_tag HN7.out (by decide) bn (by simpa using hm) rfl); have HL8 := Lib.hid (And.intro (HG7.out.stm (v' := .slice A9 (at_ + n') c9) hgr HS7.out (by simp) (by omega)) (And.intro (HG7.out.app hk.2.2.2 hgr hor8 hob (fun e he => by simp at he; rcases he with rfl | rfl | rfl | rfl | rfl | rfl | rfl | rfl | rfl <;> omega)) (And.intro (HG7.out.stm (v' := .slice A9 (at_ + n') c9) hgr HK7.out (by simp) (by omega)) (And.intro (HG7.out.blk (v' := .slice A9 (at_ + n') c9) hgr HN7.out (by omega)) (HG7.out.rc (v' := .slice A9 (at_ + n') c9) hgr HX7.out (by omega) (by omega)))))); clear h218
      refine hK.out _ _ (by (try dsimp only); exact (cell_of_row w8 bn 0 _ _ _ hn8).trans rfl) (fun hNew => ?_); clear hK K; clear hHeld; have hHeld := hNew; clear hNew
      (try simp only [Act.put, List.setIfInBounds_toArray, List.set_cons_zero, List.set_cons_succ, List.getElem_toArray, List.getElem_cons_succ, List.getElem_cons_zero])
      refine wpAnyH_ready (rs := [10]) (by decide +kernel) (by simp) ?_
      refine AllReadyH.cons (o := _) rfl (fun K hK => ?_) AllReadyH.nil
      go_simp; (try go_wp2_with fail)
      refine hK.out _ _ (by (try dsimp only); exact (cell_of_row _ bn 0 _ _ _ HL8.out.2.2.2.1).trans rfl) (fun hNew => ?_); clear hK K; clear hHeld; have hHeld := hNew; clear hNew
      (try simp only [Act.put, List.setIfInBounds_toArray, List.set_cons_zero, List.set_cons_succ, List.getElem_toArray, List.getElem_cons_succ, List.getElem_cons_zero])
      refine wpAnyH_done (by decide +kernel) ?_ _
      refine NoPanic.normal ?_; (try simp only [Exit.then]); (try go_wp2_with fail)
      go_meet
      case rel => exact ⟨_, HL8.out⟩
    refine AllReadyH.cons (o := _) rfl (fun K hK => ?_) AllReadyH.nil
    go_simp; go_at_call 42; refine (spush_any dr pr qr n n' gx at_ _ _ (fun _ => rfl) f cl mu at_ _ (by omega) (cnt_lt _ _) (by omega) GN Sc _ (fun j => xs (at_ + j)) _ (GR6.out.keep (But.refl [] _).drew (by simp) (by simp) (by simp)) (GC6.out.keep (But.refl [] _).drew (by simp))).mono ?_; rintro e w7 ⟨LA, bb, kk, rfl, hLA, hrc, hbb, hsk, hbP⟩; have hbD : But [dr, qr] w6 w7 := (But.refl _ _).drew.trans hbP; have HLA := Lib.hid hLA; clear hLA; have c217 := hbD.cell c216 (by simp; omega); have h217 := hbD.heap GG6.out.1 (by simp; omega); have hn7 := hbD.heap GN6.out (by simp; omega); have hG7 := GG6.out.keep hbD (fun i hi => by simp at hi; rcases hi with rfl | rfl; exact ⟨by simp, fun hm => by (have := hDl _ hm; omega), by omega, fun h => by omega⟩; exact ⟨by simp, fun hm => by (have := hDl _ hm; omega), by omega, fun h => by omega⟩); have hS7 := stk_next hsk (by omega); have hK7 := GK6.out.keep hbD (by simp; omega) (by simp; omega) (by simp; omega); have hx7 := GX6.out.keep hbD (by simp; omega); have HRC := Lib.hid (hrc.congr (ys := fun j => qYs f cl mu n GN Sc (fun _ => Z0) xs (at_ + j)) (fun j _ => qYs_add _ _ _ _ _ _ _ _ _ _)); have H217 := Lib.hid h217; have HN7 := Lib.hid hn7; have HG7 := Lib.hid hG7; have HS7 := Lib.hid hS7; have HK7 := Lib.hid hK7; have HX7 := Lib.hid hx7; have s67 := hbD.size; clear hrc hG7 hS7 h217 hn7 hK7 hx7 hsk; go_wp2_with fail
    refine hK.out _ _ (by (try dsimp only); exact hbD.cell cbn6 (by simp; omega)) (fun hNew => ?_); clear hK K; clear hHeld; have hHeld := hNew; clear hNew
    (try simp only [Act.put, List.setIfInBounds_toArray, List.set_cons_zero, List.set_cons_succ, List.getElem_toArray, List.getElem_cons_succ, List.getElem_cons_zero])
    refine wpAnyH_ready (rs := [0]) (by decide +kernel) (by simp) ?_
    refine AllReadyH.cons (o := _) rfl (fun K hK => ?_) AllReadyH.nil
    go_simp
    refine hK.out _ _ (by (try dsimp only); exact hHeld) (fun hNew => ?_); clear hK K; clear hHeld; have hHeld := hNew; clear hNew
    (try simp only [Act.put, List.setIfInBounds_toArray, List.set_cons_zero, List.set_cons_succ, List.getElem_toArray, List.getElem_cons_succ, List.getElem_cons_zero])
    refine wpAnyH_ready (rs := [9]) (by decide +kernel) (by simp) ?_
    refine AllReadyH.cons (o := _) rfl (fun K hK => ?_) AllReadyH.nil
    refine step_append_rc _ rfl _ _ _ rfl wB.heap.size 25 _ 1 16 Try.underlying34 Try.info25 rfl (by omega) v at_ (qYs f cl mu n GN Sc (fun _ => Z0) xs) rfl HG7.out.2.1 LA bb 0 n' kk _ rfl HLA.out (by rw [Nat.mul_one]; exact HRC.out) (by omega) (by omega) HG7.out.2.2.1.size ?_; intro v' w8 hor8 hgr hob hnn; obtain ⟨A9, g9, c9, rfl, _, _, _, _⟩ := hor8.shape3; have hb8 := But.of_grown hgr; have h218 := hb8.heap H217.out (fun hm => by have := (HG7.out.2.1.lt b21 (by simpa using hm)).1; omega); have c218 := (cell_of_row w8 b21 0 _ _ _ h218).trans (c := some v) rfl; have z218 := blk_free (i := 0) h218; have hn8 := hb8.heap HN7.out (fun hm => HG7.out.2.1.ne_tag HN7.out (by decide) bn (by simpa using hm) rfl); have HL8 := Lib.hid (And.intro (HG7.out.stm (v' := .slice A9 (at_ + n') c9) hgr HS7.out (by simp) (by omega)) (And.intro (HG7.out.app hk.2.2.2 hgr hor8 hob (fun e he => by simp at he; rcases he with rfl | rfl | rfl | rfl | rfl | rfl | rfl | rfl | rfl <;> omega)) (And.intro (HG7.out.stm (v' := .slice A9 (at_ + n') c9) hgr HK7.out (by simp) (by omega)) (And.intro (HG7.out.blk (v' := .slice A9 (at_ + n') c9) hgr HN7.out (by omega)) (HG7.out.rc (v' := .slice A9 (at_ + n') c9) hgr HX7.out (by omega) (by omega)))))); clear h218
    refine hK.out _ _ (by (try dsimp only); exact (cell_of_row w8 bn 0 _ _ _ hn8).trans rfl) (fun hNew => ?_); clear hK K; clear hHeld; have hHeld := hNew; clear hNew
    (try simp only [Act.put, List.setIfInBounds_toArray, List.set_cons_zero, List.set_cons_succ, List.getElem_toArray, List.getElem_cons_succ, List.getElem_cons_zero])
    refine wpAnyH_ready (rs := [10]) (by decide +kernel) (by simp) ?_
    refine AllReadyH.cons (o := _) rfl (fun K hK => ?_) AllReadyH.nil
    go_simp; (try go_wp2_with fail)
    refine hK.out _ _ (by (try dsimp only); exact (cell_of_row _ bn 0 _ _ _ HL8.out.2.2.2.1).trans rfl) (fun hNew => ?_); clear hK K; clear hHeld; have hHeld := hNew; clear hNew
    (try simp only [Act.put, List.setIfInBounds_toArray, List.set_cons_zero, List.set_cons_succ, List.getElem_toArray, List.getElem_cons_succ, List.getElem_cons_zero])
    refine wpAnyH_done (by decide +kernel) ?_ _
    refine NoPanic.normal ?_; (try simp only [Exit.then]); (try go_wp2_with fail)
    go_meet
    case rel => exact ⟨_, HL8.out⟩

  case rest =>
    obtain ⟨v', hSr, hGc, hSk, hnc, hxc⟩ := hcut
    have c21c : wc.cell? ⟨b21, 0, none⟩ = some v' := by rw [cell_of_row wc b21 0 _ _ _ hGc.1]; rfl
    have cbnc : wc.cell? ⟨bn, 0, none⟩ = some (.int .i64 (n' : Int)) := by rw [cell_of_row wc bn 0 _ _ _ hnc]; rfl
    have hxcc : RC wc gx at_ n' (fun j => xs (at_ + j)) := by
      have := hxc.cut (i := at_) (n := n') (by omega)
      rwa [Nat.zero_add] at this
    have hlim := hGc.2.1.lt
    have hgs := hGc.2.2.1.size
    have hfm := hGc.2.1.form
    go_upto_region 31 with fail
    have GSR := Lib.hid hSr
    have GSK := Lib.hid hSk
    have GGC := Lib.hid hGc
    have GNC := Lib.hid hnc
    have GXCC := Lib.hid hxcc
    clear hSr hGc hSk hnc hxc hxcc c216 c216d cbn6 GR6 GK6 GG6 GN6 GX6 GC6 c21 c21d cbn
    rcases hfm with ⟨rfl, h0⟩ | ⟨g9, c9, rfl, hg9, hc9, hoc⟩
    case inl =>
      obtain rfl : at_ = 0 := by omega
      obtain rfl : n' = 0 := by omega
      have e0 : IntKind.i64.wrap (0 : Int) = 0 := by rw [IntKind.wrap_i64]; omega
      refine wp_region_noPanic ?_
      refine wp_region_held_drew (S := fun w' => w'.cell? ⟨bn, 0, none⟩ = some (.int .i64 (0 : Int)) ∧ w'.cell? ⟨b21, 0, none⟩ = some (.slice none 0 0)) (by kernel_rfl) ?_ (fun hHeld => ?_)
      · (try dsimp only); exact ⟨(But.refl [] _).drew.cell cbnc (by simp), (But.refl [] _).drew.cell c21c (by simp)⟩
      (refine wpAnyH_take (i := 0) (oi := _) (v := _) rfl (by decide +kernel) (by decide +kernel) (by decide +kernel) (fun _ _ _ h => h) (Or.inl ⟨by rfl, by (intro w hSw; (try dsimp only at hSw); go_simp; try with_reducible rfl)⟩) (by assumption) ?_; (try simp only [Act.put, List.setIfInBounds_toArray, List.set_cons_zero, List.set_cons_succ, List.getElem_toArray, List.getElem_cons_succ, List.getElem_cons_zero]))
      (refine wpAnyH_take (i := 1) (oi := _) (v := _) rfl (by decide +kernel) (by decide +kernel) (by decide +kernel) (fun _ _ _ h => h) (Or.inl ⟨by rfl, by (intro w hSw; (try dsimp only at hSw); go_simp; try with_reducible rfl)⟩) (by assumption) ?_; (try simp only [Act.put, List.setIfInBounds_toArray, List.set_cons_zero, List.set_cons_succ, List.getElem_toArray, List.getElem_cons_succ, List.getElem_cons_zero]))
      (refine wpAnyH_take (i := 2) (oi := _) (v := _) rfl (by decide +kernel) (by decide +kernel) (by decide +kernel) (fun _ _ _ h => h) (Or.inl ⟨by rfl, by (intro w hSw; (try dsimp only at hSw); go_simp; try with_reducible rfl)⟩) (by assumption) ?_; (try simp only [Act.put, List.setIfInBounds_toArray, List.set_cons_zero, List.set_cons_succ, List.getElem_toArray, List.getElem_cons_succ, List.getElem_cons_zero]))
      (refine wpAnyH_take (i := 3) (oi := _) (v := _) rfl (by decide +kernel) (by decide +kernel) (by decide +kernel) (fun _ _ _ h => h) (Or.inl ⟨by rfl, by (intro w hSw; (try dsimp only at hSw); go_simp; try with_reducible rfl)⟩) (by assumption) ?_; (try simp only [Act.put, List.setIfInBounds_toArray, List.set_cons_zero, List.set_cons_succ, List.getElem_toArray, List.getElem_cons_succ, List.getElem_cons_zero]))
      (refine wpAnyH_take (i := 4) (oi := _) (v := _) rfl (by decide +kernel) (by decide +kernel) (by decide +kernel) (fun _ _ _ h => h) (Or.inl ⟨by rfl, by (intro w hSw; (try dsimp only at hSw); go_simp; try with_reducible rfl)⟩) (by assumption) ?_; (try simp only [Act.put, List.setIfInBounds_toArray, List.set_cons_zero, List.set_cons_succ, List.getElem_toArray, List.getElem_cons_succ, List.getElem_cons_zero]))
      (refine wpAnyH_take (i := 5) (oi := _) (v := _) rfl (by decide +kernel) (by decide +kernel) (by decide +kernel) (fun _ _ _ h => h) (Or.inl ⟨by rfl, by (intro w hSw; (try dsimp only at hSw); go_simp; try with_reducible rfl)⟩) (by assumption) ?_; (try simp only [Act.put, List.setIfInBounds_toArray, List.set_cons_zero, List.set_cons_succ, List.getElem_toArray, List.getElem_cons_succ, List.getElem_cons_zero]))
      (refine wpAnyH_take (i := 6) (oi := _) (v := _) rfl (by decide +kernel) (by decide +kernel) (by decide +kernel) (fun _ _ _ h => h) (Or.inl ⟨by rfl, by (intro w hSw; (try dsimp only at hSw); go_simp; try with_reducible rfl)⟩) (by assumption) ?_; (try simp only [Act.put, List.setIfInBounds_toArray, List.set_cons_zero, List.set_cons_succ, List.getElem_toArray, List.getElem_cons_succ, List.getElem_cons_zero]))
      (refine wpAnyH_take (i := 8) (oi := _) (v := _) rfl (by decide +kernel) (by decide +kernel) (by decide +kernel) (fun _ _ _ h => h) (Or.inl ⟨by rfl, by (intro w hSw; (try dsimp only at hSw); go_simp; try with_reducible rfl)⟩) (by assumption) ?_; (try simp only [Act.put, List.setIfInBounds_toArray, List.set_cons_zero, List.set_cons_succ, List.getElem_toArray, List.getElem_cons_succ, List.getElem_cons_zero]))
      (refine wpAnyH_take (i := 9) (oi := _) (v := _) rfl (by decide +kernel) (by decide +kernel) (by decide +kernel) (fun _ _ _ h => h) (Or.inl ⟨by rfl, by (intro w hSw; (try dsimp only at hSw); go_simp; try with_reducible rfl)⟩) (by assumption) ?_; (try simp only [Act.put, List.setIfInBounds_toArray, List.set_cons_zero, List.set_cons_succ, List.getElem_toArray, List.getElem_cons_succ, List.getElem_cons_zero]))
      (refine wpAnyH_take (i := 10) (oi := _) (v := _) rfl (by decide +kernel) (by decide +kernel) (by decide +kernel) (fun _ _ _ h => h) (Or.inl ⟨by rfl, by (intro w hSw; (try dsimp only at hSw); go_simp; try with_reducible rfl)⟩) (by assumption) ?_; (try simp only [Act.put, List.setIfInBounds_toArray, List.set_cons_zero, List.set_cons_succ, List.getElem_toArray, List.getElem_cons_succ, List.getElem_cons_zero]))
      (refine wpAnyH_take (i := 11) (oi := _) (v := _) rfl (by decide +kernel) (by decide +kernel) (by decide +kernel) (fun _ _ _ h => h) (Or.inl ⟨by rfl, by (intro w hSw; (try dsimp only at hSw); go_simp; try with_reducible rfl)⟩) (by assumption) ?_; (try simp only [Act.put, List.setIfInBounds_toArray, List.set_cons_zero, List.set_cons_succ, List.getElem_toArray, List.getElem_cons_succ, List.getElem_cons_zero]))
      (refine wpAnyH_take (i := 12) (oi := _) (v := _) rfl (by decide +kernel) (by decide +kernel) (by decide +kernel) (fun _ _ _ h => h) (Or.inl ⟨by rfl, by (intro w hSw; (try dsimp only at hSw); go_simp; try with_reducible rfl)⟩) (by assumption) ?_; (try simp only [Act.put, List.setIfInBounds_toArray, List.set_cons_zero, List.set_cons_succ, List.getElem_toArray, List.getElem_cons_succ, List.getElem_cons_zero]))
      (refine wpAnyH_take (i := 13) (oi := _) (v := _) rfl (by decide +kernel) (by decide +kernel) (by decide +kernel) (fun _ _ _ h => h) (Or.inl ⟨by rfl, by (intro w hSw; (try dsimp only at hSw); go_simp; try with_reducible rfl)⟩) (by assumption) ?_; (try simp only [Act.put, List.setIfInBounds_toArray, List.set_cons_zero, List.set_cons_succ, List.getElem_toArray, List.getElem_cons_succ, List.getElem_cons_zero]))
      refine wpAnyH_ready (rs := [7]) (by decide +kernel) (by simp) ?_
      refine AllReadyH.cons (o := _) rfl (fun K hK => ?_) AllReadyH.nil
      go_simp; go_at_call 42; refine (spush_any dk pk qk n 0 gx 0 _ _ (fun _ => rfl) f cl mu 0 _ (by omega) (cnt_lt _ _) (by omega) GN Sc _ (fun j => xs (0 + j)) _ (GSK.out.keep (But.refl [] _).drew (by simp) (by simp) (by simp)) (GXCC.out.keep (But.refl [] _).drew (by simp))).mono ?_; rintro e w9 ⟨LA, bb, kk, rfl, hLA, hrc, hbb, hsk, hbP⟩; have hbD : But [dk, qk] wc w9 := (But.refl _ _).drew.trans hbP; have HLA := Lib.hid hLA; clear hLA; have hrc' := hrc.congr (ys := fun j => qYs f cl mu n GN Sc (fun _ => Z0) xs (0 + j)) (fun j _ => qYs_add _ _ _ _ _ _ _ _ _ _); clear hrc; go_wp2_with fail
      refine hK.out _ _ (by (try dsimp only); exact ⟨hbD.cell cbnc (by simp; omega), hbD.cell c21c (by simp; omega)⟩) (fun hNew => ?_); clear hK K; clear hHeld; have hHeld := hNew; clear hNew
      (try simp only [Act.put, List.setIfInBounds_toArray, List.set_cons_zero, List.set_cons_succ, List.getElem_toArray, List.getElem_cons_succ, List.getElem_cons_zero])
      refine wpAnyH_ready (rs := [14]) (by decide +kernel) (by simp) ?_
      refine AllReadyH.cons (o := _) rfl (fun K hK => ?_) AllReadyH.nil
      have hrg : RC w9 0 0 0 (fun j => qYs f cl mu n GN Sc (fun _ => Z0) xs (0 + j)) := (fun j hj => by omega); go_simp; go_at_call 23; refine (lists_any _ _ bb 0 0 0 0 _ _ (by omega) (.inl rfl) _ _ hrc' hrg).mono ?_; rintro e w10 ⟨rfl, hb10⟩; have hbX : But [dk, qk] wc w10 := hbD.trans (hb10.weak (by simp)); go_wp2_with fail
      refine hK.out _ _ (by (try dsimp only); exact ⟨hbX.cell cbnc (by simp; omega), hbX.cell c21c (by simp; omega)⟩) (fun hNew => ?_); clear hK K; clear hHeld; have hHeld := hNew; clear hNew
      (try simp only [Act.put, List.setIfInBounds_toArray, List.set_cons_zero, List.set_cons_succ, List.getElem_toArray, List.getElem_cons_succ, List.getElem_cons_zero])
      (refine wpAnyH_take (i := 15) (oi := _) (v := _) rfl (by decide +kernel) (by decide +kernel) (by decide +kernel) (fun _ _ _ h => h) (Or.inl ⟨by rfl, by (intro w hSw; (try dsimp only at hSw); go_simp; try with_reducible rfl)⟩) (by assumption) ?_; (try simp only [Act.put, List.setIfInBounds_toArray, List.set_cons_zero, List.set_cons_succ, List.getElem_toArray, List.getElem_cons_succ, List.getElem_cons_zero]))
      refine wpAnyH_done (by decide +kernel) ?_ _
      refine NoPanic.normal ?_; (try simp only [Exit.then]); (try go_wp2_with fail); (try simp only [Exit.then]); refine HQ.out _ _ ⟨_, _, _, _, _, _, _, _, _, _, _, _, _, _, _, _, _, _, _, _, _, _, _, _, _, _, _, _, _, _, _, _, _, _, _, _, _, _, _, _, _, _, _, _, _, _, _, _, _, _, _, _, _, _, _, _, _, _, _, _, _, _, _, _, _, _, _, _, _, _, _, _, _, _, _, _, _, _, _, _, _, _, _, _, _, _, _, _, _, _, _, _, _, _, _, _, _, _, _, _, _, _, _, _, _, _, _, _, _, _, _, _, _, _, _, _, _, _, _, _, _, _, _, _, _, _, _, _, _, _, _, _, _, _, _, _, _, _, _, _, _, _, _, _, _, _, _, _, _, _, _, _, _, _, _, _, _, _, _, _, _, _, _, _, _, _, _, _, _, _, _, _, _, _, _, _, _, _, _, _, _, _, _, _, _, _, _, _, _, _, _, _, _, _, _, _, _, _, _, _, _, _, _, _, _, _, _, _, _, _, _, _, dr, pr, qr, _, Ds, ⟨⟨GSR.out.keep hbX (by simp; omega) (by simp; omega) (by simp; omega), (GGC.out.keep hbX (fun i hi => ?_)).ex (Ex' := [dr, pr, qr]) (fun e he => .inl (by simp at he ⊢; rcases he with h | h | h <;> simp [h])), .inr (by omega), .inr (by omega), .inr (by omega), hnd⟩, hbX.heap GNC.out (by simp; omega)⟩, rfl⟩; simp at hi; rcases hi with rfl | rfl; exact ⟨by simp, fun hm => by (have := hDl _ hm; omega), by omega, fun h => by omega⟩; exact ⟨by simp, fun hm => by (have := hDl _ hm; omega), by omega, fun h => by omega⟩
    case inr =>
      have HOC := Lib.hid hoc
      clear hoc
      have e7 : IntKind.i64.wrap (at_ : Int) = (at_ : Int) := by rw [IntKind.wrap_i64]; omega
      have e8 : at_ ≤ at_ + n' := by omega
      by_cases h9 : c9 = at_
      case pos =>
        refine wp_region_noPanic ?_
        refine wp_region_held_drew (S := fun w' => w'.cell? ⟨bn, 0, none⟩ = some (.int .i64 (n' : Int)) ∧ w'.cell? ⟨b21, 0, none⟩ = some ((.slice (some ⟨g9, 0, none⟩) (at_ + n') c9))) (by kernel_rfl) ?_ (fun hHeld => ?_)
        · (try dsimp only); exact ⟨(But.refl [] _).drew.cell cbnc (by simp), (But.refl [] _).drew.cell c21c (by simp)⟩
        (refine wpAnyH_take (i := 0) (oi := _) (v := _) rfl (by decide +kernel) (by decide +kernel) (by decide +kernel) (fun _ _ _ h => h) (Or.inl ⟨by rfl, by (intro w hSw; (try dsimp only at hSw); go_simp; try with_reducible rfl)⟩) (by assumption) ?_; (try simp only [Act.put, List.setIfInBounds_toArray, List.set_cons_zero, List.set_cons_succ, List.getElem_toArray, List.getElem_cons_succ, List.getElem_cons_zero]))
        (refine wpAnyH_take (i := 1) (oi := _) (v := _) rfl (by decide +kernel) (by decide +kernel) (by decide +kernel) (fun _ _ _ h => h) (Or.inl ⟨by rfl, by (intro w hSw; (try dsimp only at hSw); go_simp; try with_reducible rfl)⟩) (by assumption) ?_; (try simp only [Act.put, List.setIfInBounds_toArray, List.set_cons_zero, List.set_cons_succ, List.getElem_toArray, List.getElem_cons_succ, List.getElem_cons_zero]))
        (refine wpAnyH_take (i := 2) (oi := _) (v := _) rfl (by decide +kernel) (by decide +kernel) (by decide +kernel) (fun _ _ _ h => h) (Or.inl ⟨by rfl, by (intro w hSw; (try dsimp only at hSw); go_simp; try with_reducible rfl)⟩) (by assumption) ?_; (try simp only [Act.put, List.setIfInBounds_toArray, List.set_cons_zero, List.set_cons_succ, List.getElem_toArray, List.getElem_cons_succ, List.getElem_cons_zero]))
        (refine wpAnyH_take (i := 3) (oi := _) (v := _) rfl (by decide +kernel) (by decide +kernel) (by decide +kernel) (fun _ _ _ h => h) (Or.inl ⟨by rfl, by (intro w hSw; (try dsimp only at hSw); go_simp; try with_reducible rfl)⟩) (by assumption) ?_; (try simp only [Act.put, List.setIfInBounds_toArray, List.set_cons_zero, List.set_cons_succ, List.getElem_toArray, List.getElem_cons_succ, List.getElem_cons_zero]))
        (refine wpAnyH_take (i := 4) (oi := _) (v := _) rfl (by decide +kernel) (by decide +kernel) (by decide +kernel) (fun _ _ _ h => h) (Or.inl ⟨by rfl, by (intro w hSw; (try dsimp only at hSw); go_simp; try with_reducible rfl)⟩) (by assumption) ?_; (try simp only [Act.put, List.setIfInBounds_toArray, List.set_cons_zero, List.set_cons_succ, List.getElem_toArray, List.getElem_cons_succ, List.getElem_cons_zero]))
        (refine wpAnyH_take (i := 5) (oi := _) (v := _) rfl (by decide +kernel) (by decide +kernel) (by decide +kernel) (fun _ _ _ h => h) (Or.inl ⟨by rfl, by (intro w hSw; (try dsimp only at hSw); go_simp; try with_reducible rfl)⟩) (by assumption) ?_; (try simp only [Act.put, List.setIfInBounds_toArray, List.set_cons_zero, List.set_cons_succ, List.getElem_toArray, List.getElem_cons_succ, List.getElem_cons_zero]))
        (refine wpAnyH_take (i := 6) (oi := _) (v := _) rfl (by decide +kernel) (by decide +kernel) (by decide +kernel) (fun _ _ _ h => h) (Or.inl ⟨by rfl, by (intro w hSw; (try dsimp only at hSw); go_simp; try with_reducible rfl)⟩) (by assumption) ?_; (try simp only [Act.put, List.setIfInBounds_toArray, List.set_cons_zero, List.set_cons_succ, List.getElem_toArray, List.getElem_cons_succ, List.getElem_cons_zero]))
        (refine wpAnyH_take (i := 8) (oi := _) (v := _) rfl (by decide +kernel) (by decide +kernel) (by decide +kernel) (fun _ _ _ h => h) (Or.inl ⟨by rfl, by (intro w hSw; (try dsimp only at hSw); go_simp; try with_reducible rfl)⟩) (by assumption) ?_; (try simp only [Act.put, List.setIfInBounds_toArray, List.set_cons_zero, List.set_cons_succ, List.getElem_toArray, List.getElem_cons_succ, List.getElem_cons_zero]))
        (refine wpAnyH_take (i := 9) (oi := _) (v := _) rfl (by decide +kernel) (by decide +kernel) (by decide +kernel) (fun _ _ _ h => h) (Or.inl ⟨by rfl, by (intro w hSw; (try dsimp only at hSw); go_simp; try with_reducible rfl)⟩) (by assumption) ?_; (try simp only [Act.put, List.setIfInBounds_toArray, List.set_cons_zero, List.set_cons_succ, List.getElem_toArray, List.getElem_cons_succ, List.getElem_cons_zero]))
        (refine wpAnyH_take (i := 10) (oi := _) (v := _) rfl (by decide +kernel) (by decide +kernel) (by decide +kernel) (fun _ _ _ h => h) (Or.inl ⟨by rfl, by (intro w hSw; (try dsimp only at hSw); go_simp; try with_reducible rfl)⟩) (by assumption) ?_; (try simp only [Act.put, List.setIfInBounds_toArray, List.set_cons_zero, List.set_cons_succ, List.getElem_toArray, List.getElem_cons_succ, List.getElem_cons_zero]))
        (refine wpAnyH_take (i := 11) (oi := _) (v := _) rfl (by decide +kernel) (by decide +kernel) (by decide +kernel) (fun _ _ _ h => h) (Or.inl ⟨by rfl, by (intro w hSw; (try dsimp only at hSw); go_simp; try with_reducible rfl)⟩) (by assumption) ?_; (try simp only [Act.put, List.setIfInBounds_toArray, List.set_cons_zero, List.set_cons_succ, List.getElem_toArray, List.getElem_cons_succ, List.getElem_cons_zero]))
        (refine wpAnyH_take (i := 12) (oi := _) (v := _) rfl (by decide +kernel) (by decide +kernel) (by decide +kernel) (fun _ _ _ h => h) (Or.inl ⟨by rfl, by (intro w hSw; (try dsimp only at hSw); go_simp; try with_reducible rfl)⟩) (by assumption) ?_; (try simp only [Act.put, List.setIfInBounds_toArray, List.set_cons_zero, List.set_cons_succ, List.getElem_toArray, List.getElem_cons_succ, List.getElem_cons_zero]))
        (refine wpAnyH_take (i := 13) (oi := _) (v := _) rfl (by decide +kernel) (by decide +kernel) (by decide +kernel) (fun _ _ _ h => h) (Or.inl ⟨by rfl, by (intro w hSw; (try dsimp only at hSw); go_simp; try with_reducible rfl)⟩) (by assumption) ?_; (try simp only [Act.put, List.setIfInBounds_toArray, List.set_cons_zero, List.set_cons_succ, List.getElem_toArray, List.getElem_cons_succ, List.getElem_cons_zero]))
        refine wpAnyH_ready (rs := [7]) (by decide +kernel) (by simp) ?_
        refine AllReadyH.cons (o := _) rfl (fun K hK => ?_) AllReadyH.nil
        go_simp; go_at_call 42; refine (spush_any dk pk qk n n' gx at_ _ _ (fun _ => rfl) f cl mu at_ _ (by omega) (cnt_lt _ _) (by omega) GN Sc _ (fun j => xs (at_ + j)) _ (GSK.out.keep (But.refl [] _).drew (by simp) (by simp) (by simp)) (GXCC.out.keep (But.refl [] _).drew (by simp))).mono ?_; rintro e w9 ⟨LA, bb, kk, rfl, hLA, hrc, hbb, hsk, hbP⟩; have hbD : But [dk, qk] wc w9 := (But.refl _ _).drew.trans hbP; have HLA := Lib.hid hLA; clear hLA; have hrc' := hrc.congr (ys := fun j => qYs f cl mu n GN Sc (fun _ => Z0) xs (at_ + j)) (fun j _ => qYs_add _ _ _ _ _ _ _ _ _ _); clear hrc; go_wp2_with fail
        refine hK.out _ _ (by (try dsimp only); exact ⟨hbD.cell cbnc (by simp; omega), hbD.cell c21c (by simp; omega)⟩) (fun hNew => ?_); clear hK K; clear hHeld; have hHeld := hNew; clear hNew
        (try simp only [Act.put, List.setIfInBounds_toArray, List.set_cons_zero, List.set_cons_succ, List.getElem_toArray, List.getElem_cons_succ, List.getElem_cons_zero])
        refine wpAnyH_ready (rs := [14]) (by decide +kernel) (by simp) ?_
        refine AllReadyH.cons (o := _) rfl (fun K hK => ?_) AllReadyH.nil
        have hrg : RC w9 g9 at_ n' (fun j => qYs f cl mu n GN Sc (fun _ => Z0) xs (at_ + j)) := (by have h1 := HOC.out.rc.keep hbD (GGC.out.2.2.2.1 g9 (by simp [Value.ownBlock]) |> fun h hm => h (by simp at hm ⊢; rcases hm with hm | hm <;> simp [hm])); rw [Nat.mul_one] at h1; have := h1.cut (i := at_) (n := n') (Nat.le_refl _); rwa [Nat.zero_add] at this); go_simp; go_at_call 23; refine (lists_any _ _ bb 0 g9 at_ n' _ _ (by omega) (.inl (by omega)) _ _ hrc' hrg).mono ?_; rintro e w10 ⟨rfl, hb10⟩; have hbX : But [dk, qk] wc w10 := hbD.trans (hb10.weak (by simp)); go_wp2_with fail
        refine hK.out _ _ (by (try dsimp only); exact ⟨hbX.cell cbnc (by simp; omega), hbX.cell c21c (by simp; omega)⟩) (fun hNew => ?_); clear hK K; clear hHeld; have hHeld := hNew; clear hNew
        (try simp only [Act.put, List.setIfInBounds_toArray, List.set_cons_zero, List.set_cons_succ, List.getElem_toArray, List.getElem_cons_succ, List.getElem_cons_zero])
        (refine wpAnyH_take (i := 15) (oi := _) (v := _) rfl (by decide +kernel) (by decide +kernel) (by decide +kernel) (fun _ _ _ h => h) (Or.inl ⟨by rfl, by (intro w hSw; (try dsimp only at hSw); go_simp; try with_reducible rfl)⟩) (by assumption) ?_; (try simp only [Act.put, List.setIfInBounds_toArray, List.set_cons_zero, List.set_cons_succ, List.getElem_toArray, List.getElem_cons_succ, List.getElem_cons_zero]))
        refine wpAnyH_done (by decide +kernel) ?_ _
        refine NoPanic.normal ?_; (try simp only [Exit.then]); (try go_wp2_with fail); (try simp only [Exit.then]); refine HQ.out _ _ ⟨_, _, _, _, _, _, _, _, _, _, _, _, _, _, _, _, _, _, _, _, _, _, _, _, _, _, _, _, _, _, _, _, _, _, _, _, _, _, _, _, _, _, _, _, _, _, _, _, _, _, _, _, _, _, _, _, _, _, _, _, _, _, _, _, _, _, _, _, _, _, _, _, _, _, _, _, _, _, _, _, _, _, _, _, _, _, _, _, _, _, _, _, _, _, _, _, _, _, _, _, _, _, _, _, _, _, _, _, _, _, _, _, _, _, _, _, _, _, _, _, _, _, _, _, _, _, _, _, _, _, _, _, _, _, _, _, _, _, _, _, _, _, _, _, _, _, _, _, _, _, _, _, _, _, _, _, _, _, _, _, _, _, _, _, _, _, _, _, _, _, _, _, _, _, _, _, _, _, _, _, _, _, _, _, _, _, _, _, _, _, _, _, _, _, _, _, _, _, _, _, _, _, _, _, _, _, _, _, _, _, _, _, dr, pr, qr, _, Ds, ⟨⟨GSR.out.keep hbX (by simp; omega) (by simp; omega) (by simp; omega), (GGC.out.keep hbX (fun i hi => ?_)).ex (Ex' := [dr, pr, qr]) (fun e he => .inl (by simp at he ⊢; rcases he with h | h | h <;> simp [h])), .inr (by omega), .inr (by omega), .inr (by omega), hnd⟩, hbX.heap GNC.out (by simp; omega)⟩, rfl⟩; simp at hi; rcases hi with rfl | rfl; exact ⟨by simp, fun hm => by (have := hDl _ hm; omega), by omega, fun h => by omega⟩; exact ⟨by simp, fun hm => by (have := hDl _ hm; omega), by omega, fun h => by omega⟩
      case neg =>
        refine wp_region_noPanic ?_
        refine wp_region_held_drew (S := fun w' => w'.cell? ⟨bn, 0, none⟩ = some (.int .i64 (n' : Int)) ∧ w'.cell? ⟨b21, 0, none⟩ = some ((.slice (some ⟨g9, 0, none⟩) (at_ + n') c9))) (by kernel_rfl) ?_ (fun hHeld => ?_)
        · (try dsimp only); exact ⟨(But.refl [] _).drew.cell cbnc (by simp), (But.refl [] _).drew.cell c21c (by simp)⟩
        (refine wpAnyH_take (i := 0) (oi := _) (v := _) rfl (by decide +kernel) (by decide +kernel) (by decide +kernel) (fun _ _ _ h => h) (Or.inl ⟨by rfl, by (intro w hSw; (try dsimp only at hSw); go_simp; try with_reducible rfl)⟩) (by assumption) ?_; (try simp only [Act.put, List.setIfInBounds_toArray, List.set_cons_zero, List.set_cons_succ, List.getElem_toArray, List.getElem_cons_succ, List.getElem_cons_zero]))
        (refine wpAnyH_take (i := 1) (oi := _) (v := _) rfl (by decide +kernel) (by decide +kernel) (by decide +kernel) (fun _ _ _ h => h) (Or.inl ⟨by rfl, by (intro w hSw; (try dsimp only at hSw); go_simp; try with_reducible rfl)⟩) (by assumption) ?_; (try simp only [Act.put, List.setIfInBounds_toArray, List.set_cons_zero, List.set_cons_succ, List.getElem_toArray, List.getElem_cons_succ, List.getElem_cons_zero]))
        (refine wpAnyH_take (i := 2) (oi := _) (v := _) rfl (by decide +kernel) (by decide +kernel) (by decide +kernel) (fun _ _ _ h => h) (Or.inl ⟨by rfl, by (intro w hSw; (try dsimp only at hSw); go_simp; try with_reducible rfl)⟩) (by assumption) ?_; (try simp only [Act.put, List.setIfInBounds_toArray, List.set_cons_zero, List.set_cons_succ, List.getElem_toArray, List.getElem_cons_succ, List.getElem_cons_zero]))
        (refine wpAnyH_take (i := 3) (oi := _) (v := _) rfl (by decide +kernel) (by decide +kernel) (by decide +kernel) (fun _ _ _ h => h) (Or.inl ⟨by rfl, by (intro w hSw; (try dsimp only at hSw); go_simp; try with_reducible rfl)⟩) (by assumption) ?_; (try simp only [Act.put, List.setIfInBounds_toArray, List.set_cons_zero, List.set_cons_succ, List.getElem_toArray, List.getElem_cons_succ, List.getElem_cons_zero]))
        (refine wpAnyH_take (i := 4) (oi := _) (v := _) rfl (by decide +kernel) (by decide +kernel) (by decide +kernel) (fun _ _ _ h => h) (Or.inl ⟨by rfl, by (intro w hSw; (try dsimp only at hSw); go_simp; try with_reducible rfl)⟩) (by assumption) ?_; (try simp only [Act.put, List.setIfInBounds_toArray, List.set_cons_zero, List.set_cons_succ, List.getElem_toArray, List.getElem_cons_succ, List.getElem_cons_zero]))
        (refine wpAnyH_take (i := 5) (oi := _) (v := _) rfl (by decide +kernel) (by decide +kernel) (by decide +kernel) (fun _ _ _ h => h) (Or.inl ⟨by rfl, by (intro w hSw; (try dsimp only at hSw); go_simp; try with_reducible rfl)⟩) (by assumption) ?_; (try simp only [Act.put, List.setIfInBounds_toArray, List.set_cons_zero, List.set_cons_succ, List.getElem_toArray, List.getElem_cons_succ, List.getElem_cons_zero]))
        (refine wpAnyH_take (i := 6) (oi := _) (v := _) rfl (by decide +kernel) (by decide +kernel) (by decide +kernel) (fun _ _ _ h => h) (Or.inl ⟨by rfl, by (intro w hSw; (try dsimp only at hSw); go_simp; try with_reducible rfl)⟩) (by assumption) ?_; (try simp only [Act.put, List.setIfInBounds_toArray, List.set_cons_zero, List.set_cons_succ, List.getElem_toArray, List.getElem_cons_succ, List.getElem_cons_zero]))
        (refine wpAnyH_take (i := 8) (oi := _) (v := _) rfl (by decide +kernel) (by decide +kernel) (by decide +kernel) (fun _ _ _ h => h) (Or.inl ⟨by rfl, by (intro w hSw; (try dsimp only at hSw); go_simp; try with_reducible rfl)⟩) (by assumption) ?_; (try simp only [Act.put, List.setIfInBounds_toArray, List.set_cons_zero, List.set_cons_succ, List.getElem_toArray, List.getElem_cons_succ, List.getElem_cons_zero]))
        (refine wpAnyH_take (i := 9) (oi := _) (v := _) rfl (by decide +kernel) (by decide +kernel) (by decide +kernel) (fun _ _ _ h => h) (Or.inl ⟨by rfl, by (intro w hSw; (try dsimp only at hSw); go_simp; try with_reducible rfl)⟩) (by assumption) ?_; (try simp only [Act.put, List.setIfInBounds_toArray, List.set_cons_zero, List.set_cons_succ, List.getElem_toArray, List.getElem_cons_succ, List.getElem_cons_zero]))
        (refine wpAnyH_take (i := 10) (oi := _) (v := _) rfl (by decide +kernel) (by decide +kernel) (by decide +kernel) (fun _ _ _ h => h) (Or.inl ⟨by rfl, by (intro w hSw; (try dsimp only at hSw); go_simp; try with_reducible rfl)⟩) (by assumption) ?_; (try simp only [Act.put, List.setIfInBounds_toArray, List.set_cons_zero, List.set_cons_succ, List.getElem_toArray, List.getElem_cons_succ, List.getElem_cons_zero]))
        (refine wpAnyH_take (i := 11) (oi := _) (v := _) rfl (by decide +kernel) (by decide +kernel) (by decide +kernel) (fun _ _ _ h => h) (Or.inl ⟨by rfl, by (intro w hSw; (try dsimp only at hSw); go_simp; try with_reducible rfl)⟩) (by assumption) ?_; (try simp only [Act.put, List.setIfInBounds_toArray, List.set_cons_zero, List.set_cons_succ, List.getElem_toArray, List.getElem_cons_succ, List.getElem_cons_zero]))
        (refine wpAnyH_take (i := 12) (oi := _) (v := _) rfl (by decide +kernel) (by decide +kernel) (by decide +kernel) (fun _ _ _ h => h) (Or.inl ⟨by rfl, by (intro w hSw; (try dsimp only at hSw); go_simp; try with_reducible rfl)⟩) (by assumption) ?_; (try simp only [Act.put, List.setIfInBounds_toArray, List.set_cons_zero, List.set_cons_succ, List.getElem_toArray, List.getElem_cons_succ, List.getElem_cons_zero]))
        (refine wpAnyH_take (i := 13) (oi := _) (v := _) rfl (by decide +kernel) (by decide +kernel) (by decide +kernel) (fun _ _ _ h => h) (Or.inl ⟨by rfl, by (intro w hSw; (try dsimp only at hSw); go_simp; try with_reducible rfl)⟩) (by assumption) ?_; (try simp only [Act.put, List.setIfInBounds_toArray, List.set_cons_zero, List.set_cons_succ, List.getElem_toArray, List.getElem_cons_succ, List.getElem_cons_zero]))
        refine wpAnyH_ready (rs := [7]) (by decide +kernel) (by simp) ?_
        refine AllReadyH.cons (o := _) rfl (fun K hK => ?_) AllReadyH.nil
        go_simp; go_at_call 42; refine (spush_any dk pk qk n n' gx at_ _ _ (fun _ => rfl) f cl mu at_ _ (by omega) (cnt_lt _ _) (by omega) GN Sc _ (fun j => xs (at_ + j)) _ (GSK.out.keep (But.refl [] _).drew (by simp) (by simp) (by simp)) (GXCC.out.keep (But.refl [] _).drew (by simp))).mono ?_; rintro e w9 ⟨LA, bb, kk, rfl, hLA, hrc, hbb, hsk, hbP⟩; have hbD : But [dk, qk] wc w9 := (But.refl _ _).drew.trans hbP; have HLA := Lib.hid hLA; clear hLA; have hrc' := hrc.congr (ys := fun j => qYs f cl mu n GN Sc (fun _ => Z0) xs (at_ + j)) (fun j _ => qYs_add _ _ _ _ _ _ _ _ _ _); clear hrc; go_wp2_with fail
        refine hK.out _ _ (by (try dsimp only); exact ⟨hbD.cell cbnc (by simp; omega), hbD.cell c21c (by simp; omega)⟩) (fun hNew => ?_); clear hK K; clear hHeld; have hHeld := hNew; clear hNew
        (try simp only [Act.put, List.setIfInBounds_toArray, List.set_cons_zero, List.set_cons_succ, List.getElem_toArray, List.getElem_cons_succ, List.getElem_cons_zero])
        refine wpAnyH_ready (rs := [14]) (by decide +kernel) (by simp) ?_
        refine AllReadyH.cons (o := _) rfl (fun K hK => ?_) AllReadyH.nil
        have hrg : RC w9 g9 at_ n' (fun j => qYs f cl mu n GN Sc (fun _ => Z0) xs (at_ + j)) := (by have h1 := HOC.out.rc.keep hbD (GGC.out.2.2.2.1 g9 (by simp [Value.ownBlock]) |> fun h hm => h (by simp at hm ⊢; rcases hm with hm | hm <;> simp [hm])); rw [Nat.mul_one] at h1; have := h1.cut (i := at_) (n := n') (Nat.le_refl _); rwa [Nat.zero_add] at this); go_simp; go_at_call 23; refine (lists_any _ _ bb 0 g9 at_ n' _ _ (by omega) (or3 HLA.out (fun _ => rfl)) _ _ hrc' hrg).mono ?_; rintro e w10 ⟨rfl, hb10⟩; have hbX : But [dk, qk] wc w10 := hbD.trans (hb10.weak (by simp)); go_wp2_with fail
        refine hK.out _ _ (by (try dsimp only); exact ⟨hbX.cell cbnc (by simp; omega), hbX.cell c21c (by simp; omega)⟩) (fun hNew => ?_); clear hK K; clear hHeld; have hHeld := hNew; clear hNew
        (try simp only [Act.put, List.setIfInBounds_toArray, List.set_cons_zero, List.set_cons_succ, List.getElem_toArray, List.getElem_cons_succ, List.getElem_cons_zero])
        (refine wpAnyH_take (i := 15) (oi := _) (v := _) rfl (by decide +kernel) (by decide +kernel) (by decide +kernel) (fun _ _ _ h => h) (Or.inl ⟨by rfl, by (intro w hSw; (try dsimp only at hSw); go_simp; try with_reducible rfl)⟩) (by assumption) ?_; (try simp only [Act.put, List.setIfInBounds_toArray, List.set_cons_zero, List.set_cons_succ, List.getElem_toArray, List.getElem_cons_succ, List.getElem_cons_zero]))
        refine wpAnyH_done (by decide +kernel) ?_ _
        refine NoPanic.normal ?_; (try simp only [Exit.then]); (try go_wp2_with fail); (try simp only [Exit.then]); refine HQ.out _ _ ⟨_, _, _, _, _, _, _, _, _, _, _, _, _, _, _, _, _, _, _, _, _, _, _, _, _, _, _, _, _, _, _, _, _, _, _, _, _, _, _, _, _, _, _, _, _, _, _, _, _, _, _, _, _, _, _, _, _, _, _, _, _, _, _, _, _, _, _, _, _, _, _, _, _, _, _, _, _, _, _, _, _, _, _, _, _, _, _, _, _, _, _, _, _, _, _, _, _, _, _, _, _, _, _, _, _, _, _, _, _, _, _, _, _, _, _, _, _, _, _, _, _, _, _, _, _, _, _, _, _, _, _, _, _, _, _, _, _, _, _, _, _, _, _, _, _, _, _, _, _, _, _, _, _, _, _, _, _, _, _, _, _, _, _, _, _, _, _, _, _, _, _, _, _, _, _, _, _, _, _, _, _, _, _, _, _, _, _, _, _, _, _, _, _, _, _, _, _, _, _, _, _, _, _, _, _, _, _, _, _, _, _, _, dr, pr, qr, _, Ds, ⟨⟨GSR.out.keep hbX (by simp; omega) (by simp; omega) (by simp; omega), (GGC.out.keep hbX (fun i hi => ?_)).ex (Ex' := [dr, pr, qr]) (fun e he => .inl (by simp at he ⊢; rcases he with h | h | h <;> simp [h])), .inr (by omega), .inr (by omega), .inr (by omega), hnd⟩, hbX.heap GNC.out (by simp; omega)⟩, rfl⟩; simp at hi; rcases hi with rfl | rfl; exact ⟨by simp, fun hm => by (have := hDl _ hm; omega), by omega, fun h => by omega⟩; exact ⟨by simp, fun hm => by (have := hDl _ hm; omega), by omega, fun h => by omega⟩


end Go.Proofs.Ytnmpofjegepmaaa
