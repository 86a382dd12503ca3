/- WholeStreams: the switch within a round. -/
import Derived.Test.YtnmpofjegepmaaaU7
import Derived.Deep.CutRange
import Derived.Deep.QuietTactic
import Derived.BigQuiet
namespace Go.Proofs.Ytnmpofjegepmaaa
open Go.RowKit Go.Shelf Go.Proofs.Ytnmpofjegepmaaa.Fl Go.Proofs.Ytnmpofjegepmaaa.Pt


attribute [local go_sem] Oper.semAt_some
set_option linter.unusedSimpArgs false in
set_option maxHeartbeats 2000000 in
set_option maxRecDepth 100000 in
theorem sw1_any (wB wN : World) (K V0 : Option Addr) (nc kc b12 gx M c vk b21 at_ I bn n' d0 p0 q0 n d p q : Nat) (f cl mu : Bool) (Sc xs : Nat → C) (v : Value) (Ds : List Nat) (r9 : Int) (u0 u1 u3 u4 u5 u6 u7 u8 u9 u10 u11 u13 u14 u17 u18 u19 u25 u26 u27 u28 u29 u30 u31 u32 u33 u34 u35 u36 u37 u38 u39 u40 u41 u42 u43 u44 u45 u46 u47 u48 u49 u50 u51 u52 u53 u54 u55 u56 u57 u58 u59 u60 u61 u62 u63 u64 u65 u66 u67 u68 u69 u70 u71 u72 u73 u74 u75 u76 u77 u78 u79 u80 u81 u82 u83 u84 u85 u86 u87 u88 u89 u90 u91 u92 u93 u94 u95 u96 u97 u98 u99 u100 u101 u102 u103 u104 u105 u106 u107 u108 u110 u111 u112 u113 u114 u115 u116 u117 u118 u119 u120 u121 u122 u123 u124 u125 u126 u127 u128 u129 u130 u131 u132 u133 u134 u135 u136 u137 u138 u139 u140 u141 u142 u143 u144 u145 u146 u147 u148 u149 u150 u151 u152 u153 u154 u155 u156 u157 u158 u159 u160 u161 u162 u163 u164 u165 u166 u167 u168 u169 u170 u171 u172 u173 u174 u176 u177 u178 u179 u180 u181 u182 u183 u184 u185 u186 u187 u188 u189 u190 u191 u192 u193 u194 u195 u196 u197 u198 u199 u200 u201 u202 u203 u204 u205 u206 u207 u208 u209 u210 u211 u212 u213 u214 u215 u216 u217 u218 u219 u220 : Value) (Q : Exit → Act → World → Prop)
    (hr9 : r9 = (I : Int) % 3) (h3 : I % 3 = 1)
    (hS : S0 wN d p q n f cl mu GN Sc xs at_) (hG : Gp wB wN d0 q0 b21 n f cl mu Sc xs at_ v [d, p, q] Ds) (hdd : d = d0 ∨ wB.heap.size ≤ d) (hpp : p = p0 ∨ wB.heap.size ≤ p) (hqq : q = q0 ∨ wB.heap.size ≤ q) (hnd : Ds.Nodup)
    (hn : wN.heap[bn]? = some (.cells #[.int .i64 (n' : Int)] 3 (0, 0))) (hnB : wB.heap.size ≤ bn) (hbd : bn ≠ d ∧ bn ≠ p ∧ bn ≠ q)
    (hk : d0 < b21 ∧ p0 < b21 ∧ q0 < b21 ∧ b21 < wB.heap.size) (hx : RC wN gx 0 M xs) (hgx : gx < b21 ∧ gx ≠ d ∧ gx ≠ q ∧ gx ≠ d0 ∧ gx ≠ q0) (m1 : at_ + n' ≤ M) (m2 : n' ≤ 7) (hM : M ≤ 300) (hMc : M ≤ c) (hlt : at_ < M)
    (hcan : ∀ j, j < n * 5 → wf (Sc j) ∧ ccn (Sc j) = Sc j) (hfin : ∀ j, j < n * 5 → FinC (Sc j)) (hn4 : n ≤ 4)
    (hvv : v = .slice none 0 0 ∧ at_ = 0 ∨ ∃ g cap, v = .slice (some ⟨g, 0, none⟩) at_ cap)
    (hQ : ∀ a' w', SwP wB K V0 nc kc b12 gx M c vk b21 at_ I bn n' d0 p0 q0 n f cl mu Sc xs a' w' → Q .normal a' w') :
    Code.wp Try.prog sw Q { tmps := #[u0, u1, .slice K nc kc, u3, u4, u5, u6, u7, u8, u9, u10, u11, .pointer (some ⟨b12, 0, none⟩), u13, u14, .slice (some ⟨gx, 0, none⟩) M c, .pointer (some ⟨d, 0, none⟩), u17, u18, u19, .slice V0 M vk, .pointer (some ⟨b21, 0, none⟩), .int .i64 (at_ : Int), .int .i64 (I : Int), .pointer (some ⟨bn, 0, none⟩), u25, u26, u27, u28, u29, u30, u31, u32, u33, u34, u35, u36, u37, u38, u39, u40, u41, u42, u43, u44, u45, u46, u47, u48, u49, u50, u51, u52, u53, u54, u55, u56, u57, u58, u59, u60, u61, u62, u63, u64, u65, u66, u67, u68, u69, u70, u71, u72, u73, u74, u75, u76, u77, u78, u79, u80, u81, u82, u83, u84, u85, u86, u87, u88, u89, u90, u91, u92, u93, u94, u95, u96, u97, u98, u99, u100, u101, u102, u103, u104, u105, u106, u107, u108, .int .i64 r9, u110, u111, u112, u113, u114, u115, u116, u117, u118, u119, u120, u121, u122, u123, u124, u125, u126, u127, u128, u129, u130, u131, u132, u133, u134, u135, u136, u137, u138, u139, u140, u141, u142, u143, u144, u145, u146, u147, u148, u149, u150, u151, u152, u153, u154, u155, u156, u157, u158, u159, u160, u161, u162, u163, u164, u165, u166, u167, u168, u169, u170, u171, u172, u173, u174, .bool false, u176, u177, u178, u179, u180, u181, u182, u183, u184, u185, u186, u187, u188, u189, u190, u191, u192, u193, u194, u195, u196, u197, u198, u199, u200, u201, u202, u203, u204, u205, u206, u207, u208, u209, u210, u211, u212, u213, u214, u215, u216, u217, u218, u219, u220], defers := marks Ds } wN := by
  conv => arg 2; whnf
  have hed : b21 ≠ d := by rcases hdd with h | h <;> omega
  have hep : b21 ≠ p := by rcases hpp with h | h <;> omega
  have heq : b21 ≠ q := by rcases hqq with h | h <;> omega
  have HDD := Lib.hid hdd
  have HPP := Lib.hid hpp
  have HQQ := Lib.hid hqq
  have HQ := Lib.hid hQ
  have HN4 := Lib.hid hn4
  have HVV := Lib.hid hvv
  clear hdd hpp hqq hQ hvv
  have hdl := hS.dl
  have hpl := hS.pl
  have hql := hS.ql
  have hB21 := hG.1
  have c21 : wN.cell? ⟨b21, 0, none⟩ = some v := by rw [cell_of_row wN b21 0 _ _ _ hB21]; rfl
  have cbn : wN.cell? ⟨bn, 0, none⟩ = some (.int .i64 (n' : Int)) := by rw [cell_of_row wN bn 0 _ _ _ hn]; rfl
  have hbnl : bn < wN.heap.size := (Array.getElem?_eq_some_iff.1 hn).1
  have hB21l : b21 < wN.heap.size := (Array.getElem?_eq_some_iff.1 hB21).1
  have hxc : RC wN gx at_ n' (fun j => xs (at_ + j)) := by
    have := hx.cut (i := at_) (n := n') (by omega)
    rwa [Nat.zero_add] at this
  have HX := Lib.hid hx
  have HXC := Lib.hid hxc
  have H21 := Lib.hid hB21
  have HN := Lib.hid hn
  have HS := Lib.hid hS
  have HG := Lib.hid hG
  have HCAN := Lib.hid hcan
  have HFIN := Lib.hid hfin
  clear hx hxc hB21 hn hS hG hcan hfin
  have e6 : IntKind.i64.wrap ((at_ : Int) + n') = (at_ : Int) + n' := by rw [IntKind.wrap_i64]; omega
  have c21d := (But.refl [] wN).drew.cell c21 (by simp)
  have hnD : d ∉ Ds ∧ q ∉ Ds := ⟨fun hm => (stm_nodef HS.out (HG.out.2.2.2.2 _ hm).2).1 rfl, fun hm => (stm_nodef HS.out (HG.out.2.2.2.2 _ hm).2).2 rfl⟩
  have hdq0 : (d < wB.heap.size → d = d0) ∧ (q < wB.heap.size → q = q0) := ⟨fun h => HDD.out.elim id (fun h' => by omega), fun h => HQQ.out.elim id (fun h' => by omega)⟩
  have q1 : (at_ : Int) + n' ≤ M := by omega
  have q6 : (at_ : Int) + n' ≤ c := by omega
  have q7 : at_ ≤ at_ + n' := by omega
  have q8 : at_ + n' - at_ = n' := by omega
  have q2 : (0 : Int) ≤ (at_ : Int) + n' := by omega
  have q3 : ((at_ : Int) + n').toNat = at_ + n' := by omega
  have q4 : (at_ : Int) ≤ (at_ : Int) + n' := by omega
  have q5 : ¬ c = at_ := by omega
  have t3 : (r9 == 1) = true := by simp; omega
  have hS' := HS.out
  go_wp2_with (go_at_call 43; refine (sseq_any d gx at_ n' _ _ (fun _ => rfl) (by omega) (fun j => xs (at_ + j)) _ HXC.out).mono ?_; rintro e w1 ⟨bS, bL, LL, kk, rfl, gS, gL, gLL, cS, cL, hx1, hb1, hLL⟩)
  have hs1 := hb1.size
  have hSl := World.block_lt_of_cell? w1 _ cS
  have hLl := World.block_lt_of_cell? w1 _ cL
  simp only at hSl hLl
  have hG1 : Gp wB w1 d0 q0 b21 n f cl mu Sc xs (at_ + 0) v [d, p, q, bS, bL, LL, w1.heap.size, w1.heap.size + 1] Ds := by
    refine (HG.out.ex (Ex' := [d, p, q, bS, bL, LL, w1.heap.size, w1.heap.size + 1]) (fun e he => ?_)).new hb1
    simp at he
    rcases he with rfl | rfl | rfl | rfl | rfl | rfl | rfl | rfl
    · exact .inl (by simp)
    · exact .inl (by simp)
    · exact .inl (by simp)
    · exact .inr (by omega)
    · exact .inr (by omega)
    · exact .inr (by omega)
    · exact .inr (by omega)
    · exact .inr (by omega)
  have hn1 := hb1.heap HN.out (by simp)
  have hDl : ∀ D ∈ Ds, D < wN.heap.size := fun D hD => (Array.getElem?_eq_some_iff.1 (HG.out.2.2.2.2 D hD).2).1
  refine wpIn_wide.1 (rf_seq (F := Fence.wide) (n := 6) rfl (by omega) trivial trivial (fun _ _ _ _ h _ => callsIn_wide.2 h) d p q n n' bS bL LL kk f cl mu at_ _ GN Sc _ (fun j => xs (at_ + j)) rfl rfl (by omega) (cnt_lt _ _) (by omega) (HS.out.keep hb1 (by simp) (by simp) (by simp)) cS cL hx1 hLL ⟨⟨by omega, by omega⟩, ⟨by omega, by omega⟩, by omega, by omega⟩
    (fun k W => ∃ v, Gp wB W d0 q0 b21 n f cl mu Sc xs (at_ + k) v [d, p, q, bS, bL, LL, w1.heap.size, w1.heap.size + 1] Ds ∧ W.heap[bn]? = some (.cells #[.int .i64 (n' : Int)] 3 (0, 0))) ?hI ⟨v, hG1, hn1⟩
    (fun k y => { tmps := #[u0, u1, .slice K nc kc, u3, u4, u5, u6, u7, u8, u9, u10, u11, .pointer (some ⟨b12, 0, none⟩), u13, u14, .slice (some ⟨gx, 0, none⟩) M c, .pointer (some ⟨d, 0, none⟩), u17, u18, u19, .slice V0 M vk, .pointer (some ⟨b21, 0, none⟩), .int .i64 (at_ : Int), .int .i64 (I : Int), .pointer (some ⟨bn, 0, none⟩), .int .i64 (k : Int), .complex .f64 y.1 y.2, u27, u28, u29, u30, u31, u32, u33, u34, u35, u36, u37, u38, u39, u40, u41, u42, u43, u44, u45, u46, u47, u48, u49, u50, u51, u52, u53, u54, u55, u56, u57, u58, u59, u60, u61, u62, u63, u64, u65, u66, u67, u68, u69, u70, u71, u72, u73, u74, u75, u76, u77, u78, u79, u80, u81, u82, u83, u84, u85, u86, u87, u88, u89, u90, u91, u92, u93, u94, u95, u96, u97, u98, u99, u100, u101, u102, u103, u104, u105, u106, u107, u108, .int .i64 ((I : Int) % 3), u110, u111, u112, u113, u114, u115, u116, u117, u118, u119, u120, u121, u122, u123, u124, u125, u126, u127, u128, u129, u130, u131, u132, u133, u134, u135, u136, u137, u138, u139, u140, u141, u142, u143, u144, u145, u146, u147, u148, u149, u150, u151, u152, u153, u154, u155, u156, u157, u158, u159, u160, u161, u162, u163, u164, u165, u166, u167, u168, u169, u170, u171, u172, u173, u174, .bool false, u176, u177, u178, u179, u180, u181, u182, u183, u184, u185, u186, .bool true, .bool true, .pointer (some ⟨d, 0, none⟩), .slice (some ⟨gx, 0, none⟩) M c, .int .i64 (at_ : Int), .int .i64 (at_ : Int), .int .i64 (n' : Int), .int .i64 ((at_ : Int) + n'), .slice (some ⟨gx, at_, none⟩) n' (c - at_), .func (.func 85) #[] #[.pointer (some ⟨bS, 0, none⟩), .pointer (some ⟨bL, 0, none⟩)], .int .i64 (k : Int), .complex .f64 y.1 y.2, u199, u200, u201, u202, u203, u204, u205, u206, u207, u208, u209, u210, u211, u212, u213, u214, u215, u216, u217, u218, u219, u220], defers := [] }) ?assign ?body ?done)
  case hI =>
    rintro k X Y ⟨v, hv, hvn⟩ hb
    refine ⟨v, hv.keep hb (fun i hi => ?_), hb.heap hvn (by simp; omega)⟩
    simp at hi
    rcases hi with rfl | rfl | rfl | rfl
    · exact ⟨by simp, hnD.1, fun e => hed e.symm, fun h => .inl (hdq0.1 h)⟩
    · exact ⟨by simp, hnD.2, fun e => heq e.symm, fun h => .inr (hdq0.2 h)⟩
    · exact ⟨by simp, fun hm => by have := hDl _ hm; omega, by omega, fun h => by omega⟩
    · exact ⟨by simp, fun hm => by have := hDl _ hm; omega, by omega, fun h => by omega⟩
  case assign =>
    intro l k y W K hK
    gi_wp2
    exact hK
  case body =>
    rintro l k y W ⟨v, hv, hvn⟩ hlt hyw hye hsz
    have x0 : W.cell? ⟨b21, 0, none⟩ = some v := by rw [cell_of_row W b21 0 _ _ _ hv.1]; rfl
    have x1 : W.cell? ⟨bn, 0, none⟩ = some (.int .i64 (n' : Int)) := by rw [cell_of_row W bn 0 _ _ _ hvn]; rfl
    have g1 : decide ((k : Int) < 0) = false := by simp
    have g2 : decide ((n' : Int) ≤ (k : Int)) = false := by simp; omega
    rw [qYs_add] at hye
    have hrc := one_rc' W y.1 y.2 (at_ + k) (qYs f cl mu n GN Sc (fun _ => Z0) xs) hyw hye
    have hvA := hv.new ((But.refl [] W).alloc (.cells #[.complex .f64 y.1 y.2] 25))
    have HV := Lib.hid hv
    have HVA := Lib.hid hvA
    have HVN := Lib.hid hvn
    have HYE := Lib.hid hye
    have HYW := Lib.hid hyw
    clear hv hvn hvA hye hyw
    gi_wp2_with (gi_at_builtin; refine wpListIn_append_rc _ rfl _ _ _ rfl wB.heap.size 25 _ 1 16 Try.underlying34 Try.info25 rfl (by omega) v (at_ + k) (qYs f cl mu n GN Sc (fun _ => Z0) xs) rfl HVA.out.2.1 (some ⟨W.heap.size, 0, none⟩) W.heap.size 0 1 1 _ rfl (fun _ => rfl) hrc (by omega) (by omega) HVA.out.2.2.1.size ?_; intro v' w2 hor2 hgr hob hnn; have hb2 := But.of_grown hgr; have h212 := hb2.heap HVA.out.1 (fun hm => by have := (HVA.out.2.1.lt b21 (by simpa using hm)).1; omega); have x2 := (cell_of_row w2 b21 0 _ _ _ h212).trans (c := some v) rfl; have z2 := blk_free (i := 0) h212; obtain ⟨g9, c9, rfl⟩ := or_slice hor2 (by omega))
    have hEx : ∀ e ∈ [d, p, q, bS, bL, LL, w1.heap.size, w1.heap.size + 1], e < W.heap.size := by
      intro e he
      simp at he
      rcases he with rfl | rfl | rfl | rfl | rfl | rfl | rfl | rfl <;> omega
    have hGn := HVA.out.app hk.2.2.2 hgr hor2 hob (fun e he => by have := hEx e he; simp; omega)
    have hb7 : But [b21] w2 (w2.setCell ⟨b21, 0, none⟩ (.slice (some ⟨g9, 0, none⟩) (at_ + k + 1) c9)) := (But.refl _ _).setCell _ _ (.inl (by simp))
    have hbA : But [] W (W.alloc (.cells #[.complex .f64 y.1 y.2] 25)) := (But.refl _ _).alloc _
    have hs2 := hb2.size
    have hsm : ∀ i ∈ [d, p, q, bS, bL, LL, w1.heap.size, w1.heap.size + 1], (w2.setCell ⟨b21, 0, none⟩ (.slice (some ⟨g9, 0, none⟩) (at_ + k + 1) c9)).heap[i]? = W.heap[i]? := by
      intro i hi
      have h1 := hEx i hi
      have h2 : i ≠ b21 := by simp at hi; rcases hi with rfl | rfl | rfl | rfl | rfl | rfl | rfl | rfl <;> omega
      have h3 := hbA.size
      exact ((hb7.block i (by omega) (by simpa using h2)).trans (hb2.block i (by omega) (fun hm => HVA.out.2.2.2.1 i (by simpa using hm) hi))).trans (hbA.block i h1 (by simp))
    refine ⟨⟨⟨_, hGn⟩, hb7.heap (hb2.heap (hbA.heap HVN.out (by simp)) (fun hm => HVA.out.2.1.ne_tag (hbA.heap HVN.out (by simp)) (by decide) bn (by simpa using hm) rfl)) (by simp; omega)⟩, ⟨hsm d (by simp), hsm p (by simp), hsm q (by simp), hsm bS (by simp), hsm bL (by simp), hsm LL (by simp), hsm _ (by simp), hsm _ (by simp)⟩, ?_⟩
    have h3 := hbA.size
    have h4 := hb7.size
    omega
  case done =>
    rintro W ⟨v', hv, hvn⟩ hsk hK hsz
    simp only [Exit.inBlock, Exit.then]
    refine HQ.out _ _ ⟨_, _, _, _, _, _, _, _, _, _, _, _, _, _, _, _, _, _, _, _, _, _, _, _, _, _, _, _, _, _, _, _, _, _, _, _, _, _, _, _, _, _, _, _, _, _, _, _, _, _, _, _, _, _, _, _, _, _, _, _, _, _, _, _, _, _, _, _, _, _, _, _, _, _, _, _, _, _, _, _, _, _, _, _, _, _, _, _, _, _, _, _, _, _, _, _, _, _, _, _, _, _, _, _, _, _, _, _, _, _, _, _, _, _, _, _, _, _, _, _, _, _, _, _, _, _, _, _, _, _, _, _, _, _, _, _, _, _, _, _, _, _, _, _, _, _, _, _, _, _, _, _, _, _, _, _, _, _, _, _, _, _, _, _, _, _, _, _, _, _, _, _, _, _, _, _, _, _, _, _, _, _, _, _, _, _, _, _, _, _, _, _, _, _, _, _, _, _, _, _, _, _, _, _, _, _, _, _, _, _, _, _, d, p, q, v', w1.heap.size :: Ds, ⟨⟨stk_next hsk (by omega), ⟨hv.1, hv.2.1, hv.2.2.1, fun g hg hm => hv.2.2.2.1 g hg (by simp at hm ⊢; rcases hm with h | h | h <;> simp [h]), fun D hD => ?_⟩, HDD.out, HPP.out, HQQ.out, List.nodup_cons.2 ⟨fun hm => by have := hDl _ hm; omega, hnd⟩⟩, hvn⟩, rfl⟩
    rcases List.mem_cons.1 hD with rfl | hD
    · exact ⟨by omega, hK⟩
    · exact hv.2.2.2.2 D hD

end Go.Proofs.Ytnmpofjegepmaaa
