/- WholeStreams: a round of its loop. -/
import Derived.Test.YtnmpofjegepmaaaU11
import Derived.Test.YtnmpofjegepmaaaU9
import Derived.Test.YtnmpofjegepmaaaU10
import Derived.Deep.CutRange
namespace Go.Proofs.Ytnmpofjegepmaaa
open Go.RowKit Go.Shelf Go.Proofs.Ytnmpofjegepmaaa.Fl Go.Proofs.Ytnmpofjegepmaaa.Pt


set_option linter.unusedSimpArgs false in
set_option maxHeartbeats 2000000 in
set_option maxRecDepth 100000 in
theorem round0_any (w wB wr : World) (K V0 : Option Addr) (cb co nc kc b12 gx M c vk b21 d0 p0 q0 n : Nat) (f cl mu : Bool) (Sc xs : Nat → C) (at_ I d p q : Nat) (v : Value) (Ds : List Nat) (u0 u1 u3 u4 u5 u6 u7 u8 u9 u10 u11 u13 u14 u17 u18 u19 u24 u25 u26 u27 u28 u29 u30 u31 u32 u33 u34 u35 u36 u37 u38 u39 u40 u41 u42 u43 u44 u45 u46 u47 u48 u49 u50 u51 u52 u53 u54 u55 u56 u57 u58 u59 u60 u61 u62 u63 u64 u65 u66 u67 u68 u69 u70 u71 u72 u73 u74 u75 u76 u77 u78 u79 u80 u81 u82 u83 u84 u85 u86 u87 u88 u89 u90 u91 u92 u93 u94 u95 u96 u97 u98 u99 u100 u101 u102 u103 u104 u105 u106 u107 u108 u109 u110 u111 u112 u113 u114 u115 u116 u117 u118 u119 u120 u121 u122 u123 u124 u125 u126 u127 u128 u129 u130 u131 u132 u133 u134 u135 u136 u137 u138 u139 u140 u141 u142 u143 u144 u145 u146 u147 u148 u149 u150 u151 u152 u153 u154 u155 u156 u157 u158 u159 u160 u161 u162 u163 u164 u165 u166 u167 u168 u169 u170 u171 u172 u173 u174 u175 u176 u177 u178 u179 u180 u181 u182 u183 u184 u185 u186 u187 u188 u189 u190 u191 u192 u193 u194 u195 u196 u197 u198 u199 u200 u201 u202 u203 u204 u205 u206 u207 u208 u209 u210 u211 u212 u213 u214 u215 u216 u217 u218 u219 u220 : Value) (Q : Exit → Act → World → Prop)
    (hHK : 0 < nc → K = some ⟨cb, co, none⟩) (hRLK : R8 w cb co nc) (mc : nc ≤ 140737488355328) (hm4 : n ≤ 4) (hMc : M ≤ c) (hM : M ≤ 300) (hcan : ∀ j, j < n * 5 → wf (Sc j) ∧ ccn (Sc j) = Sc j) (hfin : ∀ j, j < n * 5 → FinC (Sc j))
    (hxB : RC wB gx 0 M xs) (hRB : wB.heap[b12]? = some (.cells #[.bool false] 4 (0, 0))) (hwwB : But [] w wB) (k1 : d0 < b21 ∧ p0 < b21 ∧ q0 < b21 ∧ gx < b21 ∧ b12 < b21) (k2 : gx ≠ d0 ∧ gx ≠ q0 ∧ b12 < d0 ∧ b12 < q0) (hb21l : b21 < wB.heap.size) (hwb : w.heap.size = b12)
    (hI : I ≤ 2 * nc + 2 + at_) (hlt : at_ < M) (h3 : I % 3 = 0) (hlp : Lp wB wr d0 p0 q0 b21 n f cl mu Sc xs at_ d p q v Ds) :
    Code.wp Try.prog lpb (Exit.then (fun a' w' => LI wB K (some ⟨gx, 0, none⟩) V0 nc kc b12 M c vk b21 d0 p0 q0 n f cl mu Sc xs a' w' ∧ Lmu M nc a' w' < Lmu M nc { tmps := #[u0, u1, .slice K nc kc, u3, u4, u5, u6, u7, u8, u9, u10, u11, .pointer (some ⟨b12, 0, none⟩), u13, u14, .slice (some ⟨gx, 0, none⟩) M c, .pointer (some ⟨d, 0, none⟩), u17, u18, u19, .slice V0 M vk, .pointer (some ⟨b21, 0, none⟩), .int .i64 (at_ : Int), .int .i64 (I : Int), u24, u25, u26, u27, u28, u29, u30, u31, u32, u33, u34, u35, u36, u37, u38, u39, u40, u41, u42, u43, u44, u45, u46, u47, u48, u49, u50, u51, u52, u53, u54, u55, u56, u57, u58, u59, u60, u61, u62, u63, u64, u65, u66, u67, u68, u69, u70, u71, u72, u73, u74, u75, u76, u77, u78, u79, u80, u81, u82, u83, u84, u85, u86, u87, u88, u89, u90, u91, u92, u93, u94, u95, u96, u97, u98, u99, u100, u101, u102, u103, u104, u105, u106, u107, u108, u109, u110, u111, u112, u113, u114, u115, u116, u117, u118, u119, u120, u121, u122, u123, u124, u125, u126, u127, u128, u129, u130, u131, u132, u133, u134, u135, u136, u137, u138, u139, u140, u141, u142, u143, u144, u145, u146, u147, u148, u149, u150, u151, u152, u153, u154, u155, u156, u157, u158, u159, u160, u161, u162, u163, u164, u165, u166, u167, u168, u169, u170, u171, u172, u173, u174, u175, u176, u177, u178, u179, u180, u181, u182, u183, u184, u185, u186, u187, u188, u189, u190, u191, u192, u193, u194, u195, u196, u197, u198, u199, u200, u201, u202, u203, u204, u205, u206, u207, u208, u209, u210, u211, u212, u213, u214, u215, u216, u217, u218, u219, u220], defers := marks Ds } wr) Q) { tmps := #[u0, u1, .slice K nc kc, u3, u4, u5, u6, u7, u8, u9, u10, u11, .pointer (some ⟨b12, 0, none⟩), u13, u14, .slice (some ⟨gx, 0, none⟩) M c, .pointer (some ⟨d, 0, none⟩), u17, u18, u19, .slice V0 M vk, .pointer (some ⟨b21, 0, none⟩), .int .i64 (at_ : Int), .int .i64 (I : Int), u24, u25, u26, u27, u28, u29, u30, u31, u32, u33, u34, u35, u36, u37, u38, u39, u40, u41, u42, u43, u44, u45, u46, u47, u48, u49, u50, u51, u52, u53, u54, u55, u56, u57, u58, u59, u60, u61, u62, u63, u64, u65, u66, u67, u68, u69, u70, u71, u72, u73, u74, u75, u76, u77, u78, u79, u80, u81, u82, u83, u84, u85, u86, u87, u88, u89, u90, u91, u92, u93, u94, u95, u96, u97, u98, u99, u100, u101, u102, u103, u104, u105, u106, u107, u108, u109, u110, u111, u112, u113, u114, u115, u116, u117, u118, u119, u120, u121, u122, u123, u124, u125, u126, u127, u128, u129, u130, u131, u132, u133, u134, u135, u136, u137, u138, u139, u140, u141, u142, u143, u144, u145, u146, u147, u148, u149, u150, u151, u152, u153, u154, u155, u156, u157, u158, u159, u160, u161, u162, u163, u164, u165, u166, u167, u168, u169, u170, u171, u172, u173, u174, u175, u176, u177, u178, u179, u180, u181, u182, u183, u184, u185, u186, u187, u188, u189, u190, u191, u192, u193, u194, u195, u196, u197, u198, u199, u200, u201, u202, u203, u204, u205, u206, u207, u208, u209, u210, u211, u212, u213, u214, u215, u216, u217, u218, u219, u220], defers := marks Ds } wr := by
  conv => arg 2; whnf
  have HK := Lib.hid hHK
  have RLK := Lib.hid hRLK
  have HCAN := Lib.hid hcan
  have HFIN := Lib.hid hfin
  have HRB := Lib.hid hRB
  have HWB := Lib.hid hwb
  clear hHK hRLK hcan hfin hRB hwb
  obtain ⟨hS, hG, hdd, hpp, hqq, hnd⟩ := hlp
  have hBr := hG.2.2.1
  have hwr := hBr.size
  have hb21r := hG.1
  have hxr := hxB.keep hBr (by simp; omega)
  have HRr := Lib.hid (hBr.heap HRB.out (by simp; omega))
  have hed : b21 ≠ d := by rcases hdd with h | h <;> omega
  have hep : b21 ≠ p := by rcases hpp with h | h <;> omega
  have heq : b21 ≠ q := by rcases hqq with h | h <;> omega
  have HDD := Lib.hid hdd
  have HPP := Lib.hid hpp
  have HQQ := Lib.hid hqq
  clear hdd hpp hqq
  have t1 : (at_ : Int) < M := by omega
  obtain ⟨wA, hwA, hbA, hnA⟩ : ∃ wA, (wr.alloc (.cells #[.int .i64 0] 3)).setCell ⟨wr.heap.size, 0, none⟩ (.int .i64 2) = wA ∧ But [] wr wA ∧ wA.heap[wr.heap.size]? = some (.cells #[.int .i64 2] 3 (0, 0)) := ⟨_, rfl, ((But.refl _ _).alloc _).setCell _ _ (.inr (Nat.le_refl _)), by rw [blk_set _ _ _ _ _ _ (heap_alloc_new wr _)]; rfl⟩
  have hnl : wr.heap.size < wA.heap.size := (Array.getElem?_eq_some_iff.1 hnA).1
  have HNA := Lib.hid hnA
  clear hnA
  have hfz : wA.frozen? ⟨wr.heap.size, 0, none⟩ = false := blk_free HNA.out
  have hcz : wA.cell? ⟨wr.heap.size, 0, none⟩ = some (.int .i64 2) := by rw [cell_of_row wA wr.heap.size 0 _ _ _ HNA.out]; rfl
  have HS := Lib.hid hS
  have HG := Lib.hid hG
  have HB21 := Lib.hid hb21r
  clear hS hG hb21r
  go_upto_if 89 with fail
  clear hwA
  generalize hbn : wr.heap.size = bn at *
  have HBN := Lib.hid hbn
  clear hbn
  go_cut [] from 80 to 217 (fun wx => ∃ N0 : Nat, N0 ≤ 7 ∧ But [bn] wA wx ∧ wx.heap[bn]? = some (.cells #[.int .i64 (N0 : Int)] 3 (0, 0)))
  case first =>
    by_cases hc : I < nc
    · obtain rfl := HK.out (by omega)
      have hcl : cb < b12 := by have hwb' := HWB.out; rw [← hwb']; obtain ⟨_, h1, _⟩ := RLK.out I hc; exact World.block_lt_of_cell? _ _ h1
      have hwB := hwwB.size
      obtain ⟨x, hx', ux⟩ := ((RLK.out.keep hwwB (by simp)).keep hBr (by simp; omega)).keep hbA (by simp) I hc
      have t2 : (I : Int) < nc := by omega
      go_wp2_with fail
      go_meet
      case rel => exact ⟨x % 8, by omega, (But.refl _ _).setCell _ _ (.inl (by simp)), by rw [blk_set _ _ _ _ _ _ HNA.out]; rfl⟩
    · have t2 : decide ((I : Int) < nc) = false := by simp; omega
      go_wp2_with fail
      go_meet
      case rel => exact ⟨2, by omega, But.refl _ _, HNA.out⟩
  case rest =>
    obtain ⟨N0, hN0, hb1, hn1⟩ := hcut
    have hfz1 : wc.frozen? ⟨bn, 0, none⟩ = false := blk_free hn1
    have hcz1 : wc.cell? ⟨bn, 0, none⟩ = some (.int .i64 (N0 : Int)) := by rw [cell_of_row wc bn 0 _ _ _ hn1]; rfl
    clear hcz hfz
    have HN1 := Lib.hid hn1
    clear hn1
    have e1 : IntKind.i64.wrap (2 * (nc : Int)) = 2 * (nc : Int) := by rw [IntKind.wrap_i64]; omega
    have e2 : IntKind.i64.wrap (2 * (nc : Int) + 2) = 2 * (nc : Int) + 2 := by rw [IntKind.wrap_i64]; omega
    go_upto_if 101 with fail
    go_cut [] from 80 to 217 (fun wx => ∃ N0 : Nat, N0 ≤ 7 ∧ (2 * nc + 2 ≤ I → N0 = 3) ∧ But [bn] wA wx ∧ wx.heap[bn]? = some (.cells #[.int .i64 (N0 : Int)] 3 (0, 0)))
    case first =>
      by_cases hc : 2 * nc + 2 ≤ I
      · have t2 : decide (2 * (nc : Int) + 2 ≤ (I : Int)) = true := by simp; omega
        go_wp2_with fail
        go_meet
        case rel => exact ⟨3, by omega, fun _ => rfl, hb1.trans ((But.refl _ _).setCell _ _ (.inl (by simp))), by rw [blk_set _ _ _ _ _ _ HN1.out]; rfl⟩
      · have t2 : decide (2 * (nc : Int) + 2 ≤ (I : Int)) = false := by simp; omega
        go_wp2_with fail
        go_meet
        case rel => exact ⟨N0, hN0, fun h => absurd h hc, hb1, HN1.out⟩
    case rest =>
      obtain ⟨N1, hN1, hN3, hb2, hn2⟩ := hcut
      obtain ⟨n', hmin, m1, m2, m3⟩ : ∃ n' : Nat, (if (M : Int) - at_ < N1 then (M : Int) - at_ else (N1 : Int)) = (n' : Int) ∧ at_ + n' ≤ M ∧ n' ≤ 7 ∧ (2 * nc + 2 ≤ I → 0 < n') := by
        by_cases h : (M : Int) - at_ < N1
        · exact ⟨M - at_, by rw [if_pos h]; omega, by omega, by omega, by omega⟩
        · exact ⟨N1, by rw [if_neg h], by omega, hN1, fun h => by have := hN3 h; omega⟩
      have hfz2 : wc.frozen? ⟨bn, 0, none⟩ = false := blk_free hn2
      have hcz2 : wc.cell? ⟨bn, 0, none⟩ = some (.int .i64 (N1 : Int)) := by rw [cell_of_row wc bn 0 _ _ _ hn2]; rfl
      obtain ⟨wN, hwN, hbN, hnN⟩ : ∃ wN, wc.setCell ⟨bn, 0, none⟩ (.int .i64 (n' : Int)) = wN ∧ But [bn] wA wN ∧ wN.heap[bn]? = some (.cells #[.int .i64 (n' : Int)] 3 (0, 0)) := ⟨_, rfl, hb2.setCell _ _ (.inl (by simp)), by rw [blk_set _ _ _ _ _ _ hn2]; rfl⟩
      have hrN : But [] wr wN := hbA.then hbN (fun i hi hm => by have := HBN.out; simp at hm; omega)
      have hnB : wB.heap.size ≤ bn := hwr
      have hS := HS.out.keep hrN (by simp) (by simp) (by simp)
      have hdl := HS.out.dl
      have hpl := HS.out.pl
      have hql := HS.out.ql
      have hbnr := HBN.out
      have hGN := HG.out.new hrN
      have hxN := hxr.keep hrN (by simp)
      have HRN := Lib.hid (hrN.heap HRr.out (by simp))
      have hvf : v = .slice none 0 0 ∧ at_ = 0 ∨ ∃ g cap, v = .slice (some ⟨g, 0, none⟩) at_ cap := by
        rcases hGN.2.1.form with ⟨h, h0⟩ | ⟨g, cap, h, _⟩
        · exact .inl ⟨h, h0⟩
        · exact .inr ⟨g, cap, h⟩
      have hgd : gx ≠ d := by rcases HDD.out with h | h <;> omega
      have hgq : gx ≠ q := by rcases HQQ.out with h | h <;> omega
      have HSN := Lib.hid hS
      have HGN := Lib.hid hGN
      have HXN := Lib.hid hxN
      have HNN := Lib.hid hnN
      have HVF := Lib.hid hvf
      have hbd : bn ≠ d ∧ bn ≠ p ∧ bn ≠ q := by omega
      clear hb1 hcz1 hfz1 HN1 hb2 hn2 hN1 hN3 hbA hbN hS hxN hnN HNA hvf hGN
      have t3 : ((I : Int) % 3 == 0) = true := by simp; omega
      go_upto_if 175 with fail
      refine sw0_any wB _ K V0 nc kc b12 gx M c vk b21 at_ I bn n' d0 p0 q0 n d p q f cl mu Sc xs v Ds _ _ _ _ _ _ _ _ _ _ _ _ _ _ _ _ _ _ _ _ _ _ _ _ _ _ _ _ _ _ _ _ _ _ _ _ _ _ _ _ _ _ _ _ _ _ _ _ _ _ _ _ _ _ _ _ _ _ _ _ _ _ _ _ _ _ _ _ _ _ _ _ _ _ _ _ _ _ _ _ _ _ _ _ _ _ _ _ _ _ _ _ _ _ _ _ _ _ _ _ _ _ _ _ _ _ _ _ _ _ _ _ _ _ _ _ _ _ _ _ _ _ _ _ _ _ _ _ _ _ _ _ _ _ _ _ _ _ _ _ _ _ _ _ _ _ _ _ _ _ _ _ _ _ _ _ _ _ _ _ _ _ _ _ _ _ _ _ _ _ _ _ _ _ _ _ _ _ _ _ _ _ _ _ _ _ _ _ _ _ _ _ _ _ _ _ _ _ _ _ _ _ _ _ _ _ _ _ _ _ _ _ rfl h3 HSN.out HGN.out HDD.out HPP.out HQQ.out hnd HNN.out hnB hbd ⟨by omega, by omega, by omega, hb21l⟩ HXN.out ⟨by omega, hgd, hgq, by omega, by omega⟩ m1 m2 hM hMc hlt HCAN.out HFIN.out hm4 HVF.out ?_
      intro a'' w'' hsw
      obtain ⟨u0, hsw⟩ := hsw
      obtain ⟨u1, hsw⟩ := hsw
      obtain ⟨u3, hsw⟩ := hsw
      obtain ⟨u4, hsw⟩ := hsw
      obtain ⟨u5, hsw⟩ := hsw
      obtain ⟨u6, hsw⟩ := hsw
      obtain ⟨u7, hsw⟩ := hsw
      obtain ⟨u8, hsw⟩ := hsw
      obtain ⟨u9, hsw⟩ := hsw
      obtain ⟨u10, hsw⟩ := hsw
      obtain ⟨u11, hsw⟩ := hsw
      obtain ⟨u13, hsw⟩ := hsw
      obtain ⟨u14, hsw⟩ := hsw
      obtain ⟨u17, hsw⟩ := hsw
      obtain ⟨u18, hsw⟩ := hsw
      obtain ⟨u19, hsw⟩ := hsw
      obtain ⟨u25, hsw⟩ := hsw
      obtain ⟨u26, hsw⟩ := hsw
      obtain ⟨u27, hsw⟩ := hsw
      obtain ⟨u28, hsw⟩ := hsw
      obtain ⟨u29, hsw⟩ := hsw
      obtain ⟨u30, hsw⟩ := hsw
      obtain ⟨u31, hsw⟩ := hsw
      obtain ⟨u32, hsw⟩ := hsw
      obtain ⟨u33, hsw⟩ := hsw
      obtain ⟨u34, hsw⟩ := hsw
      obtain ⟨u35, hsw⟩ := hsw
      obtain ⟨u36, hsw⟩ := hsw
      obtain ⟨u37, hsw⟩ := hsw
      obtain ⟨u38, hsw⟩ := hsw
      obtain ⟨u39, hsw⟩ := hsw
      obtain ⟨u40, hsw⟩ := hsw
      obtain ⟨u41, hsw⟩ := hsw
      obtain ⟨u42, hsw⟩ := hsw
      obtain ⟨u43, hsw⟩ := hsw
      obtain ⟨u44, hsw⟩ := hsw
      obtain ⟨u45, hsw⟩ := hsw
      obtain ⟨u46, hsw⟩ := hsw
      obtain ⟨u47, hsw⟩ := hsw
      obtain ⟨u48, hsw⟩ := hsw
      obtain ⟨u49, hsw⟩ := hsw
      obtain ⟨u50, hsw⟩ := hsw
      obtain ⟨u51, hsw⟩ := hsw
      obtain ⟨u52, hsw⟩ := hsw
      obtain ⟨u53, hsw⟩ := hsw
      obtain ⟨u54, hsw⟩ := hsw
      obtain ⟨u55, hsw⟩ := hsw
      obtain ⟨u56, hsw⟩ := hsw
      obtain ⟨u57, hsw⟩ := hsw
      obtain ⟨u58, hsw⟩ := hsw
      obtain ⟨u59, hsw⟩ := hsw
      obtain ⟨u60, hsw⟩ := hsw
      obtain ⟨u61, hsw⟩ := hsw
      obtain ⟨u62, hsw⟩ := hsw
      obtain ⟨u63, hsw⟩ := hsw
      obtain ⟨u64, hsw⟩ := hsw
      obtain ⟨u65, hsw⟩ := hsw
      obtain ⟨u66, hsw⟩ := hsw
      obtain ⟨u67, hsw⟩ := hsw
      obtain ⟨u68, hsw⟩ := hsw
      obtain ⟨u69, hsw⟩ := hsw
      obtain ⟨u70, hsw⟩ := hsw
      obtain ⟨u71, hsw⟩ := hsw
      obtain ⟨u72, hsw⟩ := hsw
      obtain ⟨u73, hsw⟩ := hsw
      obtain ⟨u74, hsw⟩ := hsw
      obtain ⟨u75, hsw⟩ := hsw
      obtain ⟨u76, hsw⟩ := hsw
      obtain ⟨u77, hsw⟩ := hsw
      obtain ⟨u78, hsw⟩ := hsw
      obtain ⟨u79, hsw⟩ := hsw
      obtain ⟨u80, hsw⟩ := hsw
      obtain ⟨u81, hsw⟩ := hsw
      obtain ⟨u82, hsw⟩ := hsw
      obtain ⟨u83, hsw⟩ := hsw
      obtain ⟨u84, hsw⟩ := hsw
      obtain ⟨u85, hsw⟩ := hsw
      obtain ⟨u86, hsw⟩ := hsw
      obtain ⟨u87, hsw⟩ := hsw
      obtain ⟨u88, hsw⟩ := hsw
      obtain ⟨u89, hsw⟩ := hsw
      obtain ⟨u90, hsw⟩ := hsw
      obtain ⟨u91, hsw⟩ := hsw
      obtain ⟨u92, hsw⟩ := hsw
      obtain ⟨u93, hsw⟩ := hsw
      obtain ⟨u94, hsw⟩ := hsw
      obtain ⟨u95, hsw⟩ := hsw
      obtain ⟨u96, hsw⟩ := hsw
      obtain ⟨u97, hsw⟩ := hsw
      obtain ⟨u98, hsw⟩ := hsw
      obtain ⟨u99, hsw⟩ := hsw
      obtain ⟨u100, hsw⟩ := hsw
      obtain ⟨u101, hsw⟩ := hsw
      obtain ⟨u102, hsw⟩ := hsw
      obtain ⟨u103, hsw⟩ := hsw
      obtain ⟨u104, hsw⟩ := hsw
      obtain ⟨u105, hsw⟩ := hsw
      obtain ⟨u106, hsw⟩ := hsw
      obtain ⟨u107, hsw⟩ := hsw
      obtain ⟨u108, hsw⟩ := hsw
      obtain ⟨u109, hsw⟩ := hsw
      obtain ⟨u110, hsw⟩ := hsw
      obtain ⟨u111, hsw⟩ := hsw
      obtain ⟨u112, hsw⟩ := hsw
      obtain ⟨u113, hsw⟩ := hsw
      obtain ⟨u114, hsw⟩ := hsw
      obtain ⟨u115, hsw⟩ := hsw
      obtain ⟨u116, hsw⟩ := hsw
      obtain ⟨u117, hsw⟩ := hsw
      obtain ⟨u118, hsw⟩ := hsw
      obtain ⟨u119, hsw⟩ := hsw
      obtain ⟨u120, hsw⟩ := hsw
      obtain ⟨u121, hsw⟩ := hsw
      obtain ⟨u122, hsw⟩ := hsw
      obtain ⟨u123, hsw⟩ := hsw
      obtain ⟨u124, hsw⟩ := hsw
      obtain ⟨u125, hsw⟩ := hsw
      obtain ⟨u126, hsw⟩ := hsw
      obtain ⟨u127, hsw⟩ := hsw
      obtain ⟨u128, hsw⟩ := hsw
      obtain ⟨u129, hsw⟩ := hsw
      obtain ⟨u130, hsw⟩ := hsw
      obtain ⟨u131, hsw⟩ := hsw
      obtain ⟨u132, hsw⟩ := hsw
      obtain ⟨u133, hsw⟩ := hsw
      obtain ⟨u134, hsw⟩ := hsw
      obtain ⟨u135, hsw⟩ := hsw
      obtain ⟨u136, hsw⟩ := hsw
      obtain ⟨u137, hsw⟩ := hsw
      obtain ⟨u138, hsw⟩ := hsw
      obtain ⟨u139, hsw⟩ := hsw
      obtain ⟨u140, hsw⟩ := hsw
      obtain ⟨u141, hsw⟩ := hsw
      obtain ⟨u142, hsw⟩ := hsw
      obtain ⟨u143, hsw⟩ := hsw
      obtain ⟨u144, hsw⟩ := hsw
      obtain ⟨u145, hsw⟩ := hsw
      obtain ⟨u146, hsw⟩ := hsw
      obtain ⟨u147, hsw⟩ := hsw
      obtain ⟨u148, hsw⟩ := hsw
      obtain ⟨u149, hsw⟩ := hsw
      obtain ⟨u150, hsw⟩ := hsw
      obtain ⟨u151, hsw⟩ := hsw
      obtain ⟨u152, hsw⟩ := hsw
      obtain ⟨u153, hsw⟩ := hsw
      obtain ⟨u154, hsw⟩ := hsw
      obtain ⟨u155, hsw⟩ := hsw
      obtain ⟨u156, hsw⟩ := hsw
      obtain ⟨u157, hsw⟩ := hsw
      obtain ⟨u158, hsw⟩ := hsw
      obtain ⟨u159, hsw⟩ := hsw
      obtain ⟨u160, hsw⟩ := hsw
      obtain ⟨u161, hsw⟩ := hsw
      obtain ⟨u162, hsw⟩ := hsw
      obtain ⟨u163, hsw⟩ := hsw
      obtain ⟨u164, hsw⟩ := hsw
      obtain ⟨u165, hsw⟩ := hsw
      obtain ⟨u166, hsw⟩ := hsw
      obtain ⟨u167, hsw⟩ := hsw
      obtain ⟨u168, hsw⟩ := hsw
      obtain ⟨u169, hsw⟩ := hsw
      obtain ⟨u170, hsw⟩ := hsw
      obtain ⟨u171, hsw⟩ := hsw
      obtain ⟨u172, hsw⟩ := hsw
      obtain ⟨u173, hsw⟩ := hsw
      obtain ⟨u174, hsw⟩ := hsw
      obtain ⟨u175, hsw⟩ := hsw
      obtain ⟨u176, hsw⟩ := hsw
      obtain ⟨u177, hsw⟩ := hsw
      obtain ⟨u178, hsw⟩ := hsw
      obtain ⟨u179, hsw⟩ := hsw
      obtain ⟨u180, hsw⟩ := hsw
      obtain ⟨u181, hsw⟩ := hsw
      obtain ⟨u182, hsw⟩ := hsw
      obtain ⟨u183, hsw⟩ := hsw
      obtain ⟨u184, hsw⟩ := hsw
      obtain ⟨u185, hsw⟩ := hsw
      obtain ⟨u186, hsw⟩ := hsw
      obtain ⟨u187, hsw⟩ := hsw
      obtain ⟨u188, hsw⟩ := hsw
      obtain ⟨u189, hsw⟩ := hsw
      obtain ⟨u190, hsw⟩ := hsw
      obtain ⟨u191, hsw⟩ := hsw
      obtain ⟨u192, hsw⟩ := hsw
      obtain ⟨u193, hsw⟩ := hsw
      obtain ⟨u194, hsw⟩ := hsw
      obtain ⟨u195, hsw⟩ := hsw
      obtain ⟨u196, hsw⟩ := hsw
      obtain ⟨u197, hsw⟩ := hsw
      obtain ⟨u198, hsw⟩ := hsw
      obtain ⟨u199, hsw⟩ := hsw
      obtain ⟨u200, hsw⟩ := hsw
      obtain ⟨u201, hsw⟩ := hsw
      obtain ⟨u202, hsw⟩ := hsw
      obtain ⟨u203, hsw⟩ := hsw
      obtain ⟨u204, hsw⟩ := hsw
      obtain ⟨u205, hsw⟩ := hsw
      obtain ⟨u206, hsw⟩ := hsw
      obtain ⟨u207, hsw⟩ := hsw
      obtain ⟨u208, hsw⟩ := hsw
      obtain ⟨u209, hsw⟩ := hsw
      obtain ⟨u210, hsw⟩ := hsw
      obtain ⟨u211, hsw⟩ := hsw
      obtain ⟨u212, hsw⟩ := hsw
      obtain ⟨u213, hsw⟩ := hsw
      obtain ⟨u214, hsw⟩ := hsw
      obtain ⟨u215, hsw⟩ := hsw
      obtain ⟨u216, hsw⟩ := hsw
      obtain ⟨u217, hsw⟩ := hsw
      obtain ⟨u218, hsw⟩ := hsw
      obtain ⟨u219, hsw⟩ := hsw
      obtain ⟨u220, hsw⟩ := hsw
      obtain ⟨d', p', q', v', Ds', ⟨hlp', hn'⟩, ha⟩ := hsw
      subst ha
      dsimp only [Exit.inBlock, Exit.then]
      have e1' : IntKind.i64.wrap ((at_ : Int) + n') = (at_ : Int) + n' := by rw [IntKind.wrap_i64]; omega
      have e3' : IntKind.u64.wrap ((at_ : Int) + n') = (at_ : Int) + n' := by rw [IntKind.wrap_u64]; omega
      have e4' : IntKind.i64.wrap ((I : Int) + 1) = (I : Int) + 1 := by rw [IntKind.wrap_i64]; omega
      have cb' : w''.cell? ⟨bn, 0, none⟩ = some (.int .i64 (n' : Int)) := by rw [cell_of_row w'' bn 0 _ _ _ hn']; rfl
      have HLP := Lib.hid hlp'
      clear hlp' hn'
      go_wp2_with (go_at_call 40; refine (sat_any d' p' q' n f cl mu (at_ + n') _ GN Sc _ _ HLP.out.1).mono ?_; rintro e w9 ⟨rfl, rfl⟩)
      refine ⟨⟨_, _, _, _, _, _, _, _, _, _, _, _, _, _, _, _, _, _, _, _, _, _, _, _, _, _, _, _, _, _, _, _, _, _, _, _, _, _, _, _, _, _, _, _, _, _, _, _, _, _, _, _, _, _, _, _, _, _, _, _, _, _, _, _, _, _, _, _, _, _, _, _, _, _, _, _, _, _, _, _, _, _, _, _, _, _, _, _, _, _, _, _, _, _, _, _, _, _, _, _, _, _, _, _, _, _, _, _, _, _, _, _, _, _, _, _, _, _, _, _, _, _, _, _, _, _, _, _, _, _, _, _, _, _, _, _, _, _, _, _, _, _, _, _, _, _, _, _, _, _, _, _, _, _, _, _, _, _, _, _, _, _, _, _, _, _, _, _, _, _, _, _, _, _, _, _, _, _, _, _, _, _, _, _, _, _, _, _, _, _, _, _, _, _, _, _, _, _, _, _, _, _, _, _, _, _, _, _, _, _, _, _, _, at_ + n', I + 1, d', p', q', v', Ds', m1, by omega, HLP.out, rfl⟩, by simp [Lmu, intOf]; omega⟩

set_option linter.unusedSimpArgs false in
set_option maxHeartbeats 2000000 in
set_option maxRecDepth 100000 in
theorem round1_any (w wB wr : World) (K V0 : Option Addr) (cb co nc kc b12 gx M c vk b21 d0 p0 q0 n : Nat) (f cl mu : Bool) (Sc xs : Nat → C) (at_ I d p q : Nat) (v : Value) (Ds : List Nat) (u0 u1 u3 u4 u5 u6 u7 u8 u9 u10 u11 u13 u14 u17 u18 u19 u24 u25 u26 u27 u28 u29 u30 u31 u32 u33 u34 u35 u36 u37 u38 u39 u40 u41 u42 u43 u44 u45 u46 u47 u48 u49 u50 u51 u52 u53 u54 u55 u56 u57 u58 u59 u60 u61 u62 u63 u64 u65 u66 u67 u68 u69 u70 u71 u72 u73 u74 u75 u76 u77 u78 u79 u80 u81 u82 u83 u84 u85 u86 u87 u88 u89 u90 u91 u92 u93 u94 u95 u96 u97 u98 u99 u100 u101 u102 u103 u104 u105 u106 u107 u108 u109 u110 u111 u112 u113 u114 u115 u116 u117 u118 u119 u120 u121 u122 u123 u124 u125 u126 u127 u128 u129 u130 u131 u132 u133 u134 u135 u136 u137 u138 u139 u140 u141 u142 u143 u144 u145 u146 u147 u148 u149 u150 u151 u152 u153 u154 u155 u156 u157 u158 u159 u160 u161 u162 u163 u164 u165 u166 u167 u168 u169 u170 u171 u172 u173 u174 u175 u176 u177 u178 u179 u180 u181 u182 u183 u184 u185 u186 u187 u188 u189 u190 u191 u192 u193 u194 u195 u196 u197 u198 u199 u200 u201 u202 u203 u204 u205 u206 u207 u208 u209 u210 u211 u212 u213 u214 u215 u216 u217 u218 u219 u220 : Value) (Q : Exit → Act → World → Prop)
    (hHK : 0 < nc → K = some ⟨cb, co, none⟩) (hRLK : R8 w cb co nc) (mc : nc ≤ 140737488355328) (hm4 : n ≤ 4) (hMc : M ≤ c) (hM : M ≤ 300) (hcan : ∀ j, j < n * 5 → wf (Sc j) ∧ ccn (Sc j) = Sc j) (hfin : ∀ j, j < n * 5 → FinC (Sc j))
    (hxB : RC wB gx 0 M xs) (hRB : wB.heap[b12]? = some (.cells #[.bool false] 4 (0, 0))) (hwwB : But [] w wB) (k1 : d0 < b21 ∧ p0 < b21 ∧ q0 < b21 ∧ gx < b21 ∧ b12 < b21) (k2 : gx ≠ d0 ∧ gx ≠ q0 ∧ b12 < d0 ∧ b12 < q0) (hb21l : b21 < wB.heap.size) (hwb : w.heap.size = b12)
    (hI : I ≤ 2 * nc + 2 + at_) (hlt : at_ < M) (h3 : I % 3 = 1) (hlp : Lp wB wr d0 p0 q0 b21 n f cl mu Sc xs at_ d p q v Ds) :
    Code.wp Try.prog lpb (Exit.then (fun a' w' => LI wB K (some ⟨gx, 0, none⟩) V0 nc kc b12 M c vk b21 d0 p0 q0 n f cl mu Sc xs a' w' ∧ Lmu M nc a' w' < Lmu M nc { tmps := #[u0, u1, .slice K nc kc, u3, u4, u5, u6, u7, u8, u9, u10, u11, .pointer (some ⟨b12, 0, none⟩), u13, u14, .slice (some ⟨gx, 0, none⟩) M c, .pointer (some ⟨d, 0, none⟩), u17, u18, u19, .slice V0 M vk, .pointer (some ⟨b21, 0, none⟩), .int .i64 (at_ : Int), .int .i64 (I : Int), u24, u25, u26, u27, u28, u29, u30, u31, u32, u33, u34, u35, u36, u37, u38, u39, u40, u41, u42, u43, u44, u45, u46, u47, u48, u49, u50, u51, u52, u53, u54, u55, u56, u57, u58, u59, u60, u61, u62, u63, u64, u65, u66, u67, u68, u69, u70, u71, u72, u73, u74, u75, u76, u77, u78, u79, u80, u81, u82, u83, u84, u85, u86, u87, u88, u89, u90, u91, u92, u93, u94, u95, u96, u97, u98, u99, u100, u101, u102, u103, u104, u105, u106, u107, u108, u109, u110, u111, u112, u113, u114, u115, u116, u117, u118, u119, u120, u121, u122, u123, u124, u125, u126, u127, u128, u129, u130, u131, u132, u133, u134, u135, u136, u137, u138, u139, u140, u141, u142, u143, u144, u145, u146, u147, u148, u149, u150, u151, u152, u153, u154, u155, u156, u157, u158, u159, u160, u161, u162, u163, u164, u165, u166, u167, u168, u169, u170, u171, u172, u173, u174, u175, u176, u177, u178, u179, u180, u181, u182, u183, u184, u185, u186, u187, u188, u189, u190, u191, u192, u193, u194, u195, u196, u197, u198, u199, u200, u201, u202, u203, u204, u205, u206, u207, u208, u209, u210, u211, u212, u213, u214, u215, u216, u217, u218, u219, u220], defers := marks Ds } wr) Q) { tmps := #[u0, u1, .slice K nc kc, u3, u4, u5, u6, u7, u8, u9, u10, u11, .pointer (some ⟨b12, 0, none⟩), u13, u14, .slice (some ⟨gx, 0, none⟩) M c, .pointer (some ⟨d, 0, none⟩), u17, u18, u19, .slice V0 M vk, .pointer (some ⟨b21, 0, none⟩), .int .i64 (at_ : Int), .int .i64 (I : Int), u24, u25, u26, u27, u28, u29, u30, u31, u32, u33, u34, u35, u36, u37, u38, u39, u40, u41, u42, u43, u44, u45, u46, u47, u48, u49, u50, u51, u52, u53, u54, u55, u56, u57, u58, u59, u60, u61, u62, u63, u64, u65, u66, u67, u68, u69, u70, u71, u72, u73, u74, u75, u76, u77, u78, u79, u80, u81, u82, u83, u84, u85, u86, u87, u88, u89, u90, u91, u92, u93, u94, u95, u96, u97, u98, u99, u100, u101, u102, u103, u104, u105, u106, u107, u108, u109, u110, u111, u112, u113, u114, u115, u116, u117, u118, u119, u120, u121, u122, u123, u124, u125, u126, u127, u128, u129, u130, u131, u132, u133, u134, u135, u136, u137, u138, u139, u140, u141, u142, u143, u144, u145, u146, u147, u148, u149, u150, u151, u152, u153, u154, u155, u156, u157, u158, u159, u160, u161, u162, u163, u164, u165, u166, u167, u168, u169, u170, u171, u172, u173, u174, u175, u176, u177, u178, u179, u180, u181, u182, u183, u184, u185, u186, u187, u188, u189, u190, u191, u192, u193, u194, u195, u196, u197, u198, u199, u200, u201, u202, u203, u204, u205, u206, u207, u208, u209, u210, u211, u212, u213, u214, u215, u216, u217, u218, u219, u220], defers := marks Ds } wr := by
  conv => arg 2; whnf
  have HK := Lib.hid hHK
  have RLK := Lib.hid hRLK
  have HCAN := Lib.hid hcan
  have HFIN := Lib.hid hfin
  have HRB := Lib.hid hRB
  have HWB := Lib.hid hwb
  clear hHK hRLK hcan hfin hRB hwb
  obtain ⟨hS, hG, hdd, hpp, hqq, hnd⟩ := hlp
  have hBr := hG.2.2.1
  have hwr := hBr.size
  have hb21r := hG.1
  have hxr := hxB.keep hBr (by simp; omega)
  have HRr := Lib.hid (hBr.heap HRB.out (by simp; omega))
  have hed : b21 ≠ d := by rcases hdd with h | h <;> omega
  have hep : b21 ≠ p := by rcases hpp with h | h <;> omega
  have heq : b21 ≠ q := by rcases hqq with h | h <;> omega
  have HDD := Lib.hid hdd
  have HPP := Lib.hid hpp
  have HQQ := Lib.hid hqq
  clear hdd hpp hqq
  have t1 : (at_ : Int) < M := by omega
  obtain ⟨wA, hwA, hbA, hnA⟩ : ∃ wA, (wr.alloc (.cells #[.int .i64 0] 3)).setCell ⟨wr.heap.size, 0, none⟩ (.int .i64 2) = wA ∧ But [] wr wA ∧ wA.heap[wr.heap.size]? = some (.cells #[.int .i64 2] 3 (0, 0)) := ⟨_, rfl, ((But.refl _ _).alloc _).setCell _ _ (.inr (Nat.le_refl _)), by rw [blk_set _ _ _ _ _ _ (heap_alloc_new wr _)]; rfl⟩
  have hnl : wr.heap.size < wA.heap.size := (Array.getElem?_eq_some_iff.1 hnA).1
  have HNA := Lib.hid hnA
  clear hnA
  have hfz : wA.frozen? ⟨wr.heap.size, 0, none⟩ = false := blk_free HNA.out
  have hcz : wA.cell? ⟨wr.heap.size, 0, none⟩ = some (.int .i64 2) := by rw [cell_of_row wA wr.heap.size 0 _ _ _ HNA.out]; rfl
  have HS := Lib.hid hS
  have HG := Lib.hid hG
  have HB21 := Lib.hid hb21r
  clear hS hG hb21r
  go_upto_if 89 with fail
  clear hwA
  generalize hbn : wr.heap.size = bn at *
  have HBN := Lib.hid hbn
  clear hbn
  go_cut [] from 80 to 217 (fun wx => ∃ N0 : Nat, N0 ≤ 7 ∧ But [bn] wA wx ∧ wx.heap[bn]? = some (.cells #[.int .i64 (N0 : Int)] 3 (0, 0)))
  case first =>
    by_cases hc : I < nc
    · obtain rfl := HK.out (by omega)
      have hcl : cb < b12 := by have hwb' := HWB.out; rw [← hwb']; obtain ⟨_, h1, _⟩ := RLK.out I hc; exact World.block_lt_of_cell? _ _ h1
      have hwB := hwwB.size
      obtain ⟨x, hx', ux⟩ := ((RLK.out.keep hwwB (by simp)).keep hBr (by simp; omega)).keep hbA (by simp) I hc
      have t2 : (I : Int) < nc := by omega
      go_wp2_with fail
      go_meet
      case rel => exact ⟨x % 8, by omega, (But.refl _ _).setCell _ _ (.inl (by simp)), by rw [blk_set _ _ _ _ _ _ HNA.out]; rfl⟩
    · have t2 : decide ((I : Int) < nc) = false := by simp; omega
      go_wp2_with fail
      go_meet
      case rel => exact ⟨2, by omega, But.refl _ _, HNA.out⟩
  case rest =>
    obtain ⟨N0, hN0, hb1, hn1⟩ := hcut
    have hfz1 : wc.frozen? ⟨bn, 0, none⟩ = false := blk_free hn1
    have hcz1 : wc.cell? ⟨bn, 0, none⟩ = some (.int .i64 (N0 : Int)) := by rw [cell_of_row wc bn 0 _ _ _ hn1]; rfl
    clear hcz hfz
    have HN1 := Lib.hid hn1
    clear hn1
    have e1 : IntKind.i64.wrap (2 * (nc : Int)) = 2 * (nc : Int) := by rw [IntKind.wrap_i64]; omega
    have e2 : IntKind.i64.wrap (2 * (nc : Int) + 2) = 2 * (nc : Int) + 2 := by rw [IntKind.wrap_i64]; omega
    go_upto_if 101 with fail
    go_cut [] from 80 to 217 (fun wx => ∃ N0 : Nat, N0 ≤ 7 ∧ (2 * nc + 2 ≤ I → N0 = 3) ∧ But [bn] wA wx ∧ wx.heap[bn]? = some (.cells #[.int .i64 (N0 : Int)] 3 (0, 0)))
    case first =>
      by_cases hc : 2 * nc + 2 ≤ I
      · have t2 : decide (2 * (nc : Int) + 2 ≤ (I : Int)) = true := by simp; omega
        go_wp2_with fail
        go_meet
        case rel => exact ⟨3, by omega, fun _ => rfl, hb1.trans ((But.refl _ _).setCell _ _ (.inl (by simp))), by rw [blk_set _ _ _ _ _ _ HN1.out]; rfl⟩
      · have t2 : decide (2 * (nc : Int) + 2 ≤ (I : Int)) = false := by simp; omega
        go_wp2_with fail
        go_meet
        case rel => exact ⟨N0, hN0, fun h => absurd h hc, hb1, HN1.out⟩
    case rest =>
      obtain ⟨N1, hN1, hN3, hb2, hn2⟩ := hcut
      obtain ⟨n', hmin, m1, m2, m3⟩ : ∃ n' : Nat, (if (M : Int) - at_ < N1 then (M : Int) - at_ else (N1 : Int)) = (n' : Int) ∧ at_ + n' ≤ M ∧ n' ≤ 7 ∧ (2 * nc + 2 ≤ I → 0 < n') := by
        by_cases h : (M : Int) - at_ < N1
        · exact ⟨M - at_, by rw [if_pos h]; omega, by omega, by omega, by omega⟩
        · exact ⟨N1, by rw [if_neg h], by omega, hN1, fun h => by have := hN3 h; omega⟩
      have hfz2 : wc.frozen? ⟨bn, 0, none⟩ = false := blk_free hn2
      have hcz2 : wc.cell? ⟨bn, 0, none⟩ = some (.int .i64 (N1 : Int)) := by rw [cell_of_row wc bn 0 _ _ _ hn2]; rfl
      obtain ⟨wN, hwN, hbN, hnN⟩ : ∃ wN, wc.setCell ⟨bn, 0, none⟩ (.int .i64 (n' : Int)) = wN ∧ But [bn] wA wN ∧ wN.heap[bn]? = some (.cells #[.int .i64 (n' : Int)] 3 (0, 0)) := ⟨_, rfl, hb2.setCell _ _ (.inl (by simp)), by rw [blk_set _ _ _ _ _ _ hn2]; rfl⟩
      have hrN : But [] wr wN := hbA.then hbN (fun i hi hm => by have := HBN.out; simp at hm; omega)
      have hnB : wB.heap.size ≤ bn := hwr
      have hS := HS.out.keep hrN (by simp) (by simp) (by simp)
      have hdl := HS.out.dl
      have hpl := HS.out.pl
      have hql := HS.out.ql
      have hbnr := HBN.out
      have hGN := HG.out.new hrN
      have hxN := hxr.keep hrN (by simp)
      have HRN := Lib.hid (hrN.heap HRr.out (by simp))
      have hvf : v = .slice none 0 0 ∧ at_ = 0 ∨ ∃ g cap, v = .slice (some ⟨g, 0, none⟩) at_ cap := by
        rcases hGN.2.1.form with ⟨h, h0⟩ | ⟨g, cap, h, _⟩
        · exact .inl ⟨h, h0⟩
        · exact .inr ⟨g, cap, h⟩
      have hgd : gx ≠ d := by rcases HDD.out with h | h <;> omega
      have hgq : gx ≠ q := by rcases HQQ.out with h | h <;> omega
      have HSN := Lib.hid hS
      have HGN := Lib.hid hGN
      have HXN := Lib.hid hxN
      have HNN := Lib.hid hnN
      have HVF := Lib.hid hvf
      have hbd : bn ≠ d ∧ bn ≠ p ∧ bn ≠ q := by omega
      clear hb1 hcz1 hfz1 HN1 hb2 hn2 hN1 hN3 hbA hbN hS hxN hnN HNA hvf hGN
      have t3 : ((I : Int) % 3 == 0) = false := by simp; omega
      go_upto_if 175 with fail
      refine sw1_any wB _ K V0 nc kc b12 gx M c vk b21 at_ I bn n' d0 p0 q0 n d p q f cl mu Sc xs v Ds _ _ _ _ _ _ _ _ _ _ _ _ _ _ _ _ _ _ _ _ _ _ _ _ _ _ _ _ _ _ _ _ _ _ _ _ _ _ _ _ _ _ _ _ _ _ _ _ _ _ _ _ _ _ _ _ _ _ _ _ _ _ _ _ _ _ _ _ _ _ _ _ _ _ _ _ _ _ _ _ _ _ _ _ _ _ _ _ _ _ _ _ _ _ _ _ _ _ _ _ _ _ _ _ _ _ _ _ _ _ _ _ _ _ _ _ _ _ _ _ _ _ _ _ _ _ _ _ _ _ _ _ _ _ _ _ _ _ _ _ _ _ _ _ _ _ _ _ _ _ _ _ _ _ _ _ _ _ _ _ _ _ _ _ _ _ _ _ _ _ _ _ _ _ _ _ _ _ _ _ _ _ _ _ _ _ _ _ _ _ _ _ _ _ _ _ _ _ _ _ _ _ _ _ _ _ _ _ _ _ _ _ rfl h3 HSN.out HGN.out HDD.out HPP.out HQQ.out hnd HNN.out hnB hbd ⟨by omega, by omega, by omega, hb21l⟩ HXN.out ⟨by omega, hgd, hgq, by omega, by omega⟩ m1 m2 hM hMc hlt HCAN.out HFIN.out hm4 HVF.out ?_
      intro a'' w'' hsw
      obtain ⟨u0, hsw⟩ := hsw
      obtain ⟨u1, hsw⟩ := hsw
      obtain ⟨u3, hsw⟩ := hsw
      obtain ⟨u4, hsw⟩ := hsw
      obtain ⟨u5, hsw⟩ := hsw
      obtain ⟨u6, hsw⟩ := hsw
      obtain ⟨u7, hsw⟩ := hsw
      obtain ⟨u8, hsw⟩ := hsw
      obtain ⟨u9, hsw⟩ := hsw
      obtain ⟨u10, hsw⟩ := hsw
      obtain ⟨u11, hsw⟩ := hsw
      obtain ⟨u13, hsw⟩ := hsw
      obtain ⟨u14, hsw⟩ := hsw
      obtain ⟨u17, hsw⟩ := hsw
      obtain ⟨u18, hsw⟩ := hsw
      obtain ⟨u19, hsw⟩ := hsw
      obtain ⟨u25, hsw⟩ := hsw
      obtain ⟨u26, hsw⟩ := hsw
      obtain ⟨u27, hsw⟩ := hsw
      obtain ⟨u28, hsw⟩ := hsw
      obtain ⟨u29, hsw⟩ := hsw
      obtain ⟨u30, hsw⟩ := hsw
      obtain ⟨u31, hsw⟩ := hsw
      obtain ⟨u32, hsw⟩ := hsw
      obtain ⟨u33, hsw⟩ := hsw
      obtain ⟨u34, hsw⟩ := hsw
      obtain ⟨u35, hsw⟩ := hsw
      obtain ⟨u36, hsw⟩ := hsw
      obtain ⟨u37, hsw⟩ := hsw
      obtain ⟨u38, hsw⟩ := hsw
      obtain ⟨u39, hsw⟩ := hsw
      obtain ⟨u40, hsw⟩ := hsw
      obtain ⟨u41, hsw⟩ := hsw
      obtain ⟨u42, hsw⟩ := hsw
      obtain ⟨u43, hsw⟩ := hsw
      obtain ⟨u44, hsw⟩ := hsw
      obtain ⟨u45, hsw⟩ := hsw
      obtain ⟨u46, hsw⟩ := hsw
      obtain ⟨u47, hsw⟩ := hsw
      obtain ⟨u48, hsw⟩ := hsw
      obtain ⟨u49, hsw⟩ := hsw
      obtain ⟨u50, hsw⟩ := hsw
      obtain ⟨u51, hsw⟩ := hsw
      obtain ⟨u52, hsw⟩ := hsw
      obtain ⟨u53, hsw⟩ := hsw
      obtain ⟨u54, hsw⟩ := hsw
      obtain ⟨u55, hsw⟩ := hsw
      obtain ⟨u56, hsw⟩ := hsw
      obtain ⟨u57, hsw⟩ := hsw
      obtain ⟨u58, hsw⟩ := hsw
      obtain ⟨u59, hsw⟩ := hsw
      obtain ⟨u60, hsw⟩ := hsw
      obtain ⟨u61, hsw⟩ := hsw
      obtain ⟨u62, hsw⟩ := hsw
      obtain ⟨u63, hsw⟩ := hsw
      obtain ⟨u64, hsw⟩ := hsw
      obtain ⟨u65, hsw⟩ := hsw
      obtain ⟨u66, hsw⟩ := hsw
      obtain ⟨u67, hsw⟩ := hsw
      obtain ⟨u68, hsw⟩ := hsw
      obtain ⟨u69, hsw⟩ := hsw
      obtain ⟨u70, hsw⟩ := hsw
      obtain ⟨u71, hsw⟩ := hsw
      obtain ⟨u72, hsw⟩ := hsw
      obtain ⟨u73, hsw⟩ := hsw
      obtain ⟨u74, hsw⟩ := hsw
      obtain ⟨u75, hsw⟩ := hsw
      obtain ⟨u76, hsw⟩ := hsw
      obtain ⟨u77, hsw⟩ := hsw
      obtain ⟨u78, hsw⟩ := hsw
      obtain ⟨u79, hsw⟩ := hsw
      obtain ⟨u80, hsw⟩ := hsw
      obtain ⟨u81, hsw⟩ := hsw
      obtain ⟨u82, hsw⟩ := hsw
      obtain ⟨u83, hsw⟩ := hsw
      obtain ⟨u84, hsw⟩ := hsw
      obtain ⟨u85, hsw⟩ := hsw
      obtain ⟨u86, hsw⟩ := hsw
      obtain ⟨u87, hsw⟩ := hsw
      obtain ⟨u88, hsw⟩ := hsw
      obtain ⟨u89, hsw⟩ := hsw
      obtain ⟨u90, hsw⟩ := hsw
      obtain ⟨u91, hsw⟩ := hsw
      obtain ⟨u92, hsw⟩ := hsw
      obtain ⟨u93, hsw⟩ := hsw
      obtain ⟨u94, hsw⟩ := hsw
      obtain ⟨u95, hsw⟩ := hsw
      obtain ⟨u96, hsw⟩ := hsw
      obtain ⟨u97, hsw⟩ := hsw
      obtain ⟨u98, hsw⟩ := hsw
      obtain ⟨u99, hsw⟩ := hsw
      obtain ⟨u100, hsw⟩ := hsw
      obtain ⟨u101, hsw⟩ := hsw
      obtain ⟨u102, hsw⟩ := hsw
      obtain ⟨u103, hsw⟩ := hsw
      obtain ⟨u104, hsw⟩ := hsw
      obtain ⟨u105, hsw⟩ := hsw
      obtain ⟨u106, hsw⟩ := hsw
      obtain ⟨u107, hsw⟩ := hsw
      obtain ⟨u108, hsw⟩ := hsw
      obtain ⟨u109, hsw⟩ := hsw
      obtain ⟨u110, hsw⟩ := hsw
      obtain ⟨u111, hsw⟩ := hsw
      obtain ⟨u112, hsw⟩ := hsw
      obtain ⟨u113, hsw⟩ := hsw
      obtain ⟨u114, hsw⟩ := hsw
      obtain ⟨u115, hsw⟩ := hsw
      obtain ⟨u116, hsw⟩ := hsw
      obtain ⟨u117, hsw⟩ := hsw
      obtain ⟨u118, hsw⟩ := hsw
      obtain ⟨u119, hsw⟩ := hsw
      obtain ⟨u120, hsw⟩ := hsw
      obtain ⟨u121, hsw⟩ := hsw
      obtain ⟨u122, hsw⟩ := hsw
      obtain ⟨u123, hsw⟩ := hsw
      obtain ⟨u124, hsw⟩ := hsw
      obtain ⟨u125, hsw⟩ := hsw
      obtain ⟨u126, hsw⟩ := hsw
      obtain ⟨u127, hsw⟩ := hsw
      obtain ⟨u128, hsw⟩ := hsw
      obtain ⟨u129, hsw⟩ := hsw
      obtain ⟨u130, hsw⟩ := hsw
      obtain ⟨u131, hsw⟩ := hsw
      obtain ⟨u132, hsw⟩ := hsw
      obtain ⟨u133, hsw⟩ := hsw
      obtain ⟨u134, hsw⟩ := hsw
      obtain ⟨u135, hsw⟩ := hsw
      obtain ⟨u136, hsw⟩ := hsw
      obtain ⟨u137, hsw⟩ := hsw
      obtain ⟨u138, hsw⟩ := hsw
      obtain ⟨u139, hsw⟩ := hsw
      obtain ⟨u140, hsw⟩ := hsw
      obtain ⟨u141, hsw⟩ := hsw
      obtain ⟨u142, hsw⟩ := hsw
      obtain ⟨u143, hsw⟩ := hsw
      obtain ⟨u144, hsw⟩ := hsw
      obtain ⟨u145, hsw⟩ := hsw
      obtain ⟨u146, hsw⟩ := hsw
      obtain ⟨u147, hsw⟩ := hsw
      obtain ⟨u148, hsw⟩ := hsw
      obtain ⟨u149, hsw⟩ := hsw
      obtain ⟨u150, hsw⟩ := hsw
      obtain ⟨u151, hsw⟩ := hsw
      obtain ⟨u152, hsw⟩ := hsw
      obtain ⟨u153, hsw⟩ := hsw
      obtain ⟨u154, hsw⟩ := hsw
      obtain ⟨u155, hsw⟩ := hsw
      obtain ⟨u156, hsw⟩ := hsw
      obtain ⟨u157, hsw⟩ := hsw
      obtain ⟨u158, hsw⟩ := hsw
      obtain ⟨u159, hsw⟩ := hsw
      obtain ⟨u160, hsw⟩ := hsw
      obtain ⟨u161, hsw⟩ := hsw
      obtain ⟨u162, hsw⟩ := hsw
      obtain ⟨u163, hsw⟩ := hsw
      obtain ⟨u164, hsw⟩ := hsw
      obtain ⟨u165, hsw⟩ := hsw
      obtain ⟨u166, hsw⟩ := hsw
      obtain ⟨u167, hsw⟩ := hsw
      obtain ⟨u168, hsw⟩ := hsw
      obtain ⟨u169, hsw⟩ := hsw
      obtain ⟨u170, hsw⟩ := hsw
      obtain ⟨u171, hsw⟩ := hsw
      obtain ⟨u172, hsw⟩ := hsw
      obtain ⟨u173, hsw⟩ := hsw
      obtain ⟨u174, hsw⟩ := hsw
      obtain ⟨u175, hsw⟩ := hsw
      obtain ⟨u176, hsw⟩ := hsw
      obtain ⟨u177, hsw⟩ := hsw
      obtain ⟨u178, hsw⟩ := hsw
      obtain ⟨u179, hsw⟩ := hsw
      obtain ⟨u180, hsw⟩ := hsw
      obtain ⟨u181, hsw⟩ := hsw
      obtain ⟨u182, hsw⟩ := hsw
      obtain ⟨u183, hsw⟩ := hsw
      obtain ⟨u184, hsw⟩ := hsw
      obtain ⟨u185, hsw⟩ := hsw
      obtain ⟨u186, hsw⟩ := hsw
      obtain ⟨u187, hsw⟩ := hsw
      obtain ⟨u188, hsw⟩ := hsw
      obtain ⟨u189, hsw⟩ := hsw
      obtain ⟨u190, hsw⟩ := hsw
      obtain ⟨u191, hsw⟩ := hsw
      obtain ⟨u192, hsw⟩ := hsw
      obtain ⟨u193, hsw⟩ := hsw
      obtain ⟨u194, hsw⟩ := hsw
      obtain ⟨u195, hsw⟩ := hsw
      obtain ⟨u196, hsw⟩ := hsw
      obtain ⟨u197, hsw⟩ := hsw
      obtain ⟨u198, hsw⟩ := hsw
      obtain ⟨u199, hsw⟩ := hsw
      obtain ⟨u200, hsw⟩ := hsw
      obtain ⟨u201, hsw⟩ := hsw
      obtain ⟨u202, hsw⟩ := hsw
      obtain ⟨u203, hsw⟩ := hsw
      obtain ⟨u204, hsw⟩ := hsw
      obtain ⟨u205, hsw⟩ := hsw
      obtain ⟨u206, hsw⟩ := hsw
      obtain ⟨u207, hsw⟩ := hsw
      obtain ⟨u208, hsw⟩ := hsw
      obtain ⟨u209, hsw⟩ := hsw
      obtain ⟨u210, hsw⟩ := hsw
      obtain ⟨u211, hsw⟩ := hsw
      obtain ⟨u212, hsw⟩ := hsw
      obtain ⟨u213, hsw⟩ := hsw
      obtain ⟨u214, hsw⟩ := hsw
      obtain ⟨u215, hsw⟩ := hsw
      obtain ⟨u216, hsw⟩ := hsw
      obtain ⟨u217, hsw⟩ := hsw
      obtain ⟨u218, hsw⟩ := hsw
      obtain ⟨u219, hsw⟩ := hsw
      obtain ⟨u220, hsw⟩ := hsw
      obtain ⟨d', p', q', v', Ds', ⟨hlp', hn'⟩, ha⟩ := hsw
      subst ha
      dsimp only [Exit.inBlock, Exit.then]
      have e1' : IntKind.i64.wrap ((at_ : Int) + n') = (at_ : Int) + n' := by rw [IntKind.wrap_i64]; omega
      have e3' : IntKind.u64.wrap ((at_ : Int) + n') = (at_ : Int) + n' := by rw [IntKind.wrap_u64]; omega
      have e4' : IntKind.i64.wrap ((I : Int) + 1) = (I : Int) + 1 := by rw [IntKind.wrap_i64]; omega
      have cb' : w''.cell? ⟨bn, 0, none⟩ = some (.int .i64 (n' : Int)) := by rw [cell_of_row w'' bn 0 _ _ _ hn']; rfl
      have HLP := Lib.hid hlp'
      clear hlp' hn'
      go_wp2_with (go_at_call 40; refine (sat_any d' p' q' n f cl mu (at_ + n') _ GN Sc _ _ HLP.out.1).mono ?_; rintro e w9 ⟨rfl, rfl⟩)
      refine ⟨⟨_, _, _, _, _, _, _, _, _, _, _, _, _, _, _, _, _, _, _, _, _, _, _, _, _, _, _, _, _, _, _, _, _, _, _, _, _, _, _, _, _, _, _, _, _, _, _, _, _, _, _, _, _, _, _, _, _, _, _, _, _, _, _, _, _, _, _, _, _, _, _, _, _, _, _, _, _, _, _, _, _, _, _, _, _, _, _, _, _, _, _, _, _, _, _, _, _, _, _, _, _, _, _, _, _, _, _, _, _, _, _, _, _, _, _, _, _, _, _, _, _, _, _, _, _, _, _, _, _, _, _, _, _, _, _, _, _, _, _, _, _, _, _, _, _, _, _, _, _, _, _, _, _, _, _, _, _, _, _, _, _, _, _, _, _, _, _, _, _, _, _, _, _, _, _, _, _, _, _, _, _, _, _, _, _, _, _, _, _, _, _, _, _, _, _, _, _, _, _, _, _, _, _, _, _, _, _, _, _, _, _, _, _, at_ + n', I + 1, d', p', q', v', Ds', m1, by omega, HLP.out, rfl⟩, by simp [Lmu, intOf]; omega⟩

set_option linter.unusedSimpArgs false in
set_option maxHeartbeats 2000000 in
set_option maxRecDepth 100000 in
theorem round2_any (w wB wr : World) (K V0 : Option Addr) (cb co nc kc b12 gx M c vk b21 d0 p0 q0 n : Nat) (f cl mu : Bool) (Sc xs : Nat → C) (at_ I d p q : Nat) (v : Value) (Ds : List Nat) (u0 u1 u3 u4 u5 u6 u7 u8 u9 u10 u11 u13 u14 u17 u18 u19 u24 u25 u26 u27 u28 u29 u30 u31 u32 u33 u34 u35 u36 u37 u38 u39 u40 u41 u42 u43 u44 u45 u46 u47 u48 u49 u50 u51 u52 u53 u54 u55 u56 u57 u58 u59 u60 u61 u62 u63 u64 u65 u66 u67 u68 u69 u70 u71 u72 u73 u74 u75 u76 u77 u78 u79 u80 u81 u82 u83 u84 u85 u86 u87 u88 u89 u90 u91 u92 u93 u94 u95 u96 u97 u98 u99 u100 u101 u102 u103 u104 u105 u106 u107 u108 u109 u110 u111 u112 u113 u114 u115 u116 u117 u118 u119 u120 u121 u122 u123 u124 u125 u126 u127 u128 u129 u130 u131 u132 u133 u134 u135 u136 u137 u138 u139 u140 u141 u142 u143 u144 u145 u146 u147 u148 u149 u150 u151 u152 u153 u154 u155 u156 u157 u158 u159 u160 u161 u162 u163 u164 u165 u166 u167 u168 u169 u170 u171 u172 u173 u174 u175 u176 u177 u178 u179 u180 u181 u182 u183 u184 u185 u186 u187 u188 u189 u190 u191 u192 u193 u194 u195 u196 u197 u198 u199 u200 u201 u202 u203 u204 u205 u206 u207 u208 u209 u210 u211 u212 u213 u214 u215 u216 u217 u218 u219 u220 : Value) (Q : Exit → Act → World → Prop)
    (hHK : 0 < nc → K = some ⟨cb, co, none⟩) (hRLK : R8 w cb co nc) (mc : nc ≤ 140737488355328) (hm4 : n ≤ 4) (hMc : M ≤ c) (hM : M ≤ 300) (hcan : ∀ j, j < n * 5 → wf (Sc j) ∧ ccn (Sc j) = Sc j) (hfin : ∀ j, j < n * 5 → FinC (Sc j))
    (hxB : RC wB gx 0 M xs) (hRB : wB.heap[b12]? = some (.cells #[.bool false] 4 (0, 0))) (hwwB : But [] w wB) (k1 : d0 < b21 ∧ p0 < b21 ∧ q0 < b21 ∧ gx < b21 ∧ b12 < b21) (k2 : gx ≠ d0 ∧ gx ≠ q0 ∧ b12 < d0 ∧ b12 < q0) (hb21l : b21 < wB.heap.size) (hwb : w.heap.size = b12)
    (hI : I ≤ 2 * nc + 2 + at_) (hlt : at_ < M) (h3 : I % 3 = 2) (hlp : Lp wB wr d0 p0 q0 b21 n f cl mu Sc xs at_ d p q v Ds) :
    Code.wp Try.prog lpb (Exit.then (fun a' w' => LI wB K (some ⟨gx, 0, none⟩) V0 nc kc b12 M c vk b21 d0 p0 q0 n f cl mu Sc xs a' w' ∧ Lmu M nc a' w' < Lmu M nc { tmps := #[u0, u1, .slice K nc kc, u3, u4, u5, u6, u7, u8, u9, u10, u11, .pointer (some ⟨b12, 0, none⟩), u13, u14, .slice (some ⟨gx, 0, none⟩) M c, .pointer (some ⟨d, 0, none⟩), u17, u18, u19, .slice V0 M vk, .pointer (some ⟨b21, 0, none⟩), .int .i64 (at_ : Int), .int .i64 (I : Int), u24, u25, u26, u27, u28, u29, u30, u31, u32, u33, u34, u35, u36, u37, u38, u39, u40, u41, u42, u43, u44, u45, u46, u47, u48, u49, u50, u51, u52, u53, u54, u55, u56, u57, u58, u59, u60, u61, u62, u63, u64, u65, u66, u67, u68, u69, u70, u71, u72, u73, u74, u75, u76, u77, u78, u79, u80, u81, u82, u83, u84, u85, u86, u87, u88, u89, u90, u91, u92, u93, u94, u95, u96, u97, u98, u99, u100, u101, u102, u103, u104, u105, u106, u107, u108, u109, u110, u111, u112, u113, u114, u115, u116, u117, u118, u119, u120, u121, u122, u123, u124, u125, u126, u127, u128, u129, u130, u131, u132, u133, u134, u135, u136, u137, u138, u139, u140, u141, u142, u143, u144, u145, u146, u147, u148, u149, u150, u151, u152, u153, u154, u155, u156, u157, u158, u159, u160, u161, u162, u163, u164, u165, u166, u167, u168, u169, u170, u171, u172, u173, u174, u175, u176, u177, u178, u179, u180, u181, u182, u183, u184, u185, u186, u187, u188, u189, u190, u191, u192, u193, u194, u195, u196, u197, u198, u199, u200, u201, u202, u203, u204, u205, u206, u207, u208, u209, u210, u211, u212, u213, u214, u215, u216, u217, u218, u219, u220], defers := marks Ds } wr) Q) { tmps := #[u0, u1, .slice K nc kc, u3, u4, u5, u6, u7, u8, u9, u10, u11, .pointer (some ⟨b12, 0, none⟩), u13, u14, .slice (some ⟨gx, 0, none⟩) M c, .pointer (some ⟨d, 0, none⟩), u17, u18, u19, .slice V0 M vk, .pointer (some ⟨b21, 0, none⟩), .int .i64 (at_ : Int), .int .i64 (I : Int), u24, u25, u26, u27, u28, u29, u30, u31, u32, u33, u34, u35, u36, u37, u38, u39, u40, u41, u42, u43, u44, u45, u46, u47, u48, u49, u50, u51, u52, u53, u54, u55, u56, u57, u58, u59, u60, u61, u62, u63, u64, u65, u66, u67, u68, u69, u70, u71, u72, u73, u74, u75, u76, u77, u78, u79, u80, u81, u82, u83, u84, u85, u86, u87, u88, u89, u90, u91, u92, u93, u94, u95, u96, u97, u98, u99, u100, u101, u102, u103, u104, u105, u106, u107, u108, u109, u110, u111, u112, u113, u114, u115, u116, u117, u118, u119, u120, u121, u122, u123, u124, u125, u126, u127, u128, u129, u130, u131, u132, u133, u134, u135, u136, u137, u138, u139, u140, u141, u142, u143, u144, u145, u146, u147, u148, u149, u150, u151, u152, u153, u154, u155, u156, u157, u158, u159, u160, u161, u162, u163, u164, u165, u166, u167, u168, u169, u170, u171, u172, u173, u174, u175, u176, u177, u178, u179, u180, u181, u182, u183, u184, u185, u186, u187, u188, u189, u190, u191, u192, u193, u194, u195, u196, u197, u198, u199, u200, u201, u202, u203, u204, u205, u206, u207, u208, u209, u210, u211, u212, u213, u214, u215, u216, u217, u218, u219, u220], defers := marks Ds } wr := by
  conv => arg 2; whnf
  have HK := Lib.hid hHK
  have RLK := Lib.hid hRLK
  have HCAN := Lib.hid hcan
  have HFIN := Lib.hid hfin
  have HRB := Lib.hid hRB
  have HWB := Lib.hid hwb
  clear hHK hRLK hcan hfin hRB hwb
  obtain ⟨hS, hG, hdd, hpp, hqq, hnd⟩ := hlp
  have hBr := hG.2.2.1
  have hwr := hBr.size
  have hb21r := hG.1
  have hxr := hxB.keep hBr (by simp; omega)
  have HRr := Lib.hid (hBr.heap HRB.out (by simp; omega))
  have hed : b21 ≠ d := by rcases hdd with h | h <;> omega
  have hep : b21 ≠ p := by rcases hpp with h | h <;> omega
  have heq : b21 ≠ q := by rcases hqq with h | h <;> omega
  have HDD := Lib.hid hdd
  have HPP := Lib.hid hpp
  have HQQ := Lib.hid hqq
  clear hdd hpp hqq
  have t1 : (at_ : Int) < M := by omega
  obtain ⟨wA, hwA, hbA, hnA⟩ : ∃ wA, (wr.alloc (.cells #[.int .i64 0] 3)).setCell ⟨wr.heap.size, 0, none⟩ (.int .i64 2) = wA ∧ But [] wr wA ∧ wA.heap[wr.heap.size]? = some (.cells #[.int .i64 2] 3 (0, 0)) := ⟨_, rfl, ((But.refl _ _).alloc _).setCell _ _ (.inr (Nat.le_refl _)), by rw [blk_set _ _ _ _ _ _ (heap_alloc_new wr _)]; rfl⟩
  have hnl : wr.heap.size < wA.heap.size := (Array.getElem?_eq_some_iff.1 hnA).1
  have HNA := Lib.hid hnA
  clear hnA
  have hfz : wA.frozen? ⟨wr.heap.size, 0, none⟩ = false := blk_free HNA.out
  have hcz : wA.cell? ⟨wr.heap.size, 0, none⟩ = some (.int .i64 2) := by rw [cell_of_row wA wr.heap.size 0 _ _ _ HNA.out]; rfl
  have HS := Lib.hid hS
  have HG := Lib.hid hG
  have HB21 := Lib.hid hb21r
  clear hS hG hb21r
  go_upto_if 89 with fail
  clear hwA
  generalize hbn : wr.heap.size = bn at *
  have HBN := Lib.hid hbn
  clear hbn
  go_cut [] from 80 to 217 (fun wx => ∃ N0 : Nat, N0 ≤ 7 ∧ But [bn] wA wx ∧ wx.heap[bn]? = some (.cells #[.int .i64 (N0 : Int)] 3 (0, 0)))
  case first =>
    by_cases hc : I < nc
    · obtain rfl := HK.out (by omega)
      have hcl : cb < b12 := by have hwb' := HWB.out; rw [← hwb']; obtain ⟨_, h1, _⟩ := RLK.out I hc; exact World.block_lt_of_cell? _ _ h1
      have hwB := hwwB.size
      obtain ⟨x, hx', ux⟩ := ((RLK.out.keep hwwB (by simp)).keep hBr (by simp; omega)).keep hbA (by simp) I hc
      have t2 : (I : Int) < nc := by omega
      go_wp2_with fail
      go_meet
      case rel => exact ⟨x % 8, by omega, (But.refl _ _).setCell _ _ (.inl (by simp)), by rw [blk_set _ _ _ _ _ _ HNA.out]; rfl⟩
    · have t2 : decide ((I : Int) < nc) = false := by simp; omega
      go_wp2_with fail
      go_meet
      case rel => exact ⟨2, by omega, But.refl _ _, HNA.out⟩
  case rest =>
    obtain ⟨N0, hN0, hb1, hn1⟩ := hcut
    have hfz1 : wc.frozen? ⟨bn, 0, none⟩ = false := blk_free hn1
    have hcz1 : wc.cell? ⟨bn, 0, none⟩ = some (.int .i64 (N0 : Int)) := by rw [cell_of_row wc bn 0 _ _ _ hn1]; rfl
    clear hcz hfz
    have HN1 := Lib.hid hn1
    clear hn1
    have e1 : IntKind.i64.wrap (2 * (nc : Int)) = 2 * (nc : Int) := by rw [IntKind.wrap_i64]; omega
    have e2 : IntKind.i64.wrap (2 * (nc : Int) + 2) = 2 * (nc : Int) + 2 := by rw [IntKind.wrap_i64]; omega
    go_upto_if 101 with fail
    go_cut [] from 80 to 217 (fun wx => ∃ N0 : Nat, N0 ≤ 7 ∧ (2 * nc + 2 ≤ I → N0 = 3) ∧ But [bn] wA wx ∧ wx.heap[bn]? = some (.cells #[.int .i64 (N0 : Int)] 3 (0, 0)))
    case first =>
      by_cases hc : 2 * nc + 2 ≤ I
      · have t2 : decide (2 * (nc : Int) + 2 ≤ (I : Int)) = true := by simp; omega
        go_wp2_with fail
        go_meet
        case rel => exact ⟨3, by omega, fun _ => rfl, hb1.trans ((But.refl _ _).setCell _ _ (.inl (by simp))), by rw [blk_set _ _ _ _ _ _ HN1.out]; rfl⟩
      · have t2 : decide (2 * (nc : Int) + 2 ≤ (I : Int)) = false := by simp; omega
        go_wp2_with fail
        go_meet
        case rel => exact ⟨N0, hN0, fun h => absurd h hc, hb1, HN1.out⟩
    case rest =>
      obtain ⟨N1, hN1, hN3, hb2, hn2⟩ := hcut
      obtain ⟨n', hmin, m1, m2, m3⟩ : ∃ n' : Nat, (if (M : Int) - at_ < N1 then (M : Int) - at_ else (N1 : Int)) = (n' : Int) ∧ at_ + n' ≤ M ∧ n' ≤ 7 ∧ (2 * nc + 2 ≤ I → 0 < n') := by
        by_cases h : (M : Int) - at_ < N1
        · exact ⟨M - at_, by rw [if_pos h]; omega, by omega, by omega, by omega⟩
        · exact ⟨N1, by rw [if_neg h], by omega, hN1, fun h => by have := hN3 h; omega⟩
      have hfz2 : wc.frozen? ⟨bn, 0, none⟩ = false := blk_free hn2
      have hcz2 : wc.cell? ⟨bn, 0, none⟩ = some (.int .i64 (N1 : Int)) := by rw [cell_of_row wc bn 0 _ _ _ hn2]; rfl
      obtain ⟨wN, hwN, hbN, hnN⟩ : ∃ wN, wc.setCell ⟨bn, 0, none⟩ (.int .i64 (n' : Int)) = wN ∧ But [bn] wA wN ∧ wN.heap[bn]? = some (.cells #[.int .i64 (n' : Int)] 3 (0, 0)) := ⟨_, rfl, hb2.setCell _ _ (.inl (by simp)), by rw [blk_set _ _ _ _ _ _ hn2]; rfl⟩
      have hrN : But [] wr wN := hbA.then hbN (fun i hi hm => by have := HBN.out; simp at hm; omega)
      have hnB : wB.heap.size ≤ bn := hwr
      have hS := HS.out.keep hrN (by simp) (by simp) (by simp)
      have hdl := HS.out.dl
      have hpl := HS.out.pl
      have hql := HS.out.ql
      have hbnr := HBN.out
      have hGN := HG.out.new hrN
      have hxN := hxr.keep hrN (by simp)
      have HRN := Lib.hid (hrN.heap HRr.out (by simp))
      have hvf : v = .slice none 0 0 ∧ at_ = 0 ∨ ∃ g cap, v = .slice (some ⟨g, 0, none⟩) at_ cap := by
        rcases hGN.2.1.form with ⟨h, h0⟩ | ⟨g, cap, h, _⟩
        · exact .inl ⟨h, h0⟩
        · exact .inr ⟨g, cap, h⟩
      have hgd : gx ≠ d := by rcases HDD.out with h | h <;> omega
      have hgq : gx ≠ q := by rcases HQQ.out with h | h <;> omega
      have HSN := Lib.hid hS
      have HGN := Lib.hid hGN
      have HXN := Lib.hid hxN
      have HNN := Lib.hid hnN
      have HVF := Lib.hid hvf
      have hbd : bn ≠ d ∧ bn ≠ p ∧ bn ≠ q := by omega
      clear hb1 hcz1 hfz1 HN1 hb2 hn2 hN1 hN3 hbA hbN hS hxN hnN HNA hvf hGN
      have t3 : ((I : Int) % 3 == 0) = false := by simp; omega
      go_upto_if 175 with fail
      refine sw2_any wB _ K V0 nc kc b12 gx M c vk b21 at_ I bn n' d0 p0 q0 n d p q f cl mu Sc xs v Ds _ _ _ _ _ _ _ _ _ _ _ _ _ _ _ _ _ _ _ _ _ _ _ _ _ _ _ _ _ _ _ _ _ _ _ _ _ _ _ _ _ _ _ _ _ _ _ _ _ _ _ _ _ _ _ _ _ _ _ _ _ _ _ _ _ _ _ _ _ _ _ _ _ _ _ _ _ _ _ _ _ _ _ _ _ _ _ _ _ _ _ _ _ _ _ _ _ _ _ _ _ _ _ _ _ _ _ _ _ _ _ _ _ _ _ _ _ _ _ _ _ _ _ _ _ _ _ _ _ _ _ _ _ _ _ _ _ _ _ _ _ _ _ _ _ _ _ _ _ _ _ _ _ _ _ _ _ _ _ _ _ _ _ _ _ _ _ _ _ _ _ _ _ _ _ _ _ _ _ _ _ _ _ _ _ _ _ _ _ _ _ _ _ _ _ _ _ _ _ _ _ _ _ _ _ _ _ _ _ _ _ _ rfl h3 HSN.out HGN.out HDD.out HPP.out HQQ.out hnd HNN.out hnB hbd ⟨by omega, by omega, by omega, hb21l⟩ HXN.out ⟨by omega, hgd, hgq, by omega, by omega⟩ m1 m2 hM hMc hlt HCAN.out HFIN.out hm4 HVF.out ?_
      intro a'' w'' hsw
      obtain ⟨u0, hsw⟩ := hsw
      obtain ⟨u1, hsw⟩ := hsw
      obtain ⟨u3, hsw⟩ := hsw
      obtain ⟨u4, hsw⟩ := hsw
      obtain ⟨u5, hsw⟩ := hsw
      obtain ⟨u6, hsw⟩ := hsw
      obtain ⟨u7, hsw⟩ := hsw
      obtain ⟨u8, hsw⟩ := hsw
      obtain ⟨u9, hsw⟩ := hsw
      obtain ⟨u10, hsw⟩ := hsw
      obtain ⟨u11, hsw⟩ := hsw
      obtain ⟨u13, hsw⟩ := hsw
      obtain ⟨u14, hsw⟩ := hsw
      obtain ⟨u17, hsw⟩ := hsw
      obtain ⟨u18, hsw⟩ := hsw
      obtain ⟨u19, hsw⟩ := hsw
      obtain ⟨u25, hsw⟩ := hsw
      obtain ⟨u26, hsw⟩ := hsw
      obtain ⟨u27, hsw⟩ := hsw
      obtain ⟨u28, hsw⟩ := hsw
      obtain ⟨u29, hsw⟩ := hsw
      obtain ⟨u30, hsw⟩ := hsw
      obtain ⟨u31, hsw⟩ := hsw
      obtain ⟨u32, hsw⟩ := hsw
      obtain ⟨u33, hsw⟩ := hsw
      obtain ⟨u34, hsw⟩ := hsw
      obtain ⟨u35, hsw⟩ := hsw
      obtain ⟨u36, hsw⟩ := hsw
      obtain ⟨u37, hsw⟩ := hsw
      obtain ⟨u38, hsw⟩ := hsw
      obtain ⟨u39, hsw⟩ := hsw
      obtain ⟨u40, hsw⟩ := hsw
      obtain ⟨u41, hsw⟩ := hsw
      obtain ⟨u42, hsw⟩ := hsw
      obtain ⟨u43, hsw⟩ := hsw
      obtain ⟨u44, hsw⟩ := hsw
      obtain ⟨u45, hsw⟩ := hsw
      obtain ⟨u46, hsw⟩ := hsw
      obtain ⟨u47, hsw⟩ := hsw
      obtain ⟨u48, hsw⟩ := hsw
      obtain ⟨u49, hsw⟩ := hsw
      obtain ⟨u50, hsw⟩ := hsw
      obtain ⟨u51, hsw⟩ := hsw
      obtain ⟨u52, hsw⟩ := hsw
      obtain ⟨u53, hsw⟩ := hsw
      obtain ⟨u54, hsw⟩ := hsw
      obtain ⟨u55, hsw⟩ := hsw
      obtain ⟨u56, hsw⟩ := hsw
      obtain ⟨u57, hsw⟩ := hsw
      obtain ⟨u58, hsw⟩ := hsw
      obtain ⟨u59, hsw⟩ := hsw
      obtain ⟨u60, hsw⟩ := hsw
      obtain ⟨u61, hsw⟩ := hsw
      obtain ⟨u62, hsw⟩ := hsw
      obtain ⟨u63, hsw⟩ := hsw
      obtain ⟨u64, hsw⟩ := hsw
      obtain ⟨u65, hsw⟩ := hsw
      obtain ⟨u66, hsw⟩ := hsw
      obtain ⟨u67, hsw⟩ := hsw
      obtain ⟨u68, hsw⟩ := hsw
      obtain ⟨u69, hsw⟩ := hsw
      obtain ⟨u70, hsw⟩ := hsw
      obtain ⟨u71, hsw⟩ := hsw
      obtain ⟨u72, hsw⟩ := hsw
      obtain ⟨u73, hsw⟩ := hsw
      obtain ⟨u74, hsw⟩ := hsw
      obtain ⟨u75, hsw⟩ := hsw
      obtain ⟨u76, hsw⟩ := hsw
      obtain ⟨u77, hsw⟩ := hsw
      obtain ⟨u78, hsw⟩ := hsw
      obtain ⟨u79, hsw⟩ := hsw
      obtain ⟨u80, hsw⟩ := hsw
      obtain ⟨u81, hsw⟩ := hsw
      obtain ⟨u82, hsw⟩ := hsw
      obtain ⟨u83, hsw⟩ := hsw
      obtain ⟨u84, hsw⟩ := hsw
      obtain ⟨u85, hsw⟩ := hsw
      obtain ⟨u86, hsw⟩ := hsw
      obtain ⟨u87, hsw⟩ := hsw
      obtain ⟨u88, hsw⟩ := hsw
      obtain ⟨u89, hsw⟩ := hsw
      obtain ⟨u90, hsw⟩ := hsw
      obtain ⟨u91, hsw⟩ := hsw
      obtain ⟨u92, hsw⟩ := hsw
      obtain ⟨u93, hsw⟩ := hsw
      obtain ⟨u94, hsw⟩ := hsw
      obtain ⟨u95, hsw⟩ := hsw
      obtain ⟨u96, hsw⟩ := hsw
      obtain ⟨u97, hsw⟩ := hsw
      obtain ⟨u98, hsw⟩ := hsw
      obtain ⟨u99, hsw⟩ := hsw
      obtain ⟨u100, hsw⟩ := hsw
      obtain ⟨u101, hsw⟩ := hsw
      obtain ⟨u102, hsw⟩ := hsw
      obtain ⟨u103, hsw⟩ := hsw
      obtain ⟨u104, hsw⟩ := hsw
      obtain ⟨u105, hsw⟩ := hsw
      obtain ⟨u106, hsw⟩ := hsw
      obtain ⟨u107, hsw⟩ := hsw
      obtain ⟨u108, hsw⟩ := hsw
      obtain ⟨u109, hsw⟩ := hsw
      obtain ⟨u110, hsw⟩ := hsw
      obtain ⟨u111, hsw⟩ := hsw
      obtain ⟨u112, hsw⟩ := hsw
      obtain ⟨u113, hsw⟩ := hsw
      obtain ⟨u114, hsw⟩ := hsw
      obtain ⟨u115, hsw⟩ := hsw
      obtain ⟨u116, hsw⟩ := hsw
      obtain ⟨u117, hsw⟩ := hsw
      obtain ⟨u118, hsw⟩ := hsw
      obtain ⟨u119, hsw⟩ := hsw
      obtain ⟨u120, hsw⟩ := hsw
      obtain ⟨u121, hsw⟩ := hsw
      obtain ⟨u122, hsw⟩ := hsw
      obtain ⟨u123, hsw⟩ := hsw
      obtain ⟨u124, hsw⟩ := hsw
      obtain ⟨u125, hsw⟩ := hsw
      obtain ⟨u126, hsw⟩ := hsw
      obtain ⟨u127, hsw⟩ := hsw
      obtain ⟨u128, hsw⟩ := hsw
      obtain ⟨u129, hsw⟩ := hsw
      obtain ⟨u130, hsw⟩ := hsw
      obtain ⟨u131, hsw⟩ := hsw
      obtain ⟨u132, hsw⟩ := hsw
      obtain ⟨u133, hsw⟩ := hsw
      obtain ⟨u134, hsw⟩ := hsw
      obtain ⟨u135, hsw⟩ := hsw
      obtain ⟨u136, hsw⟩ := hsw
      obtain ⟨u137, hsw⟩ := hsw
      obtain ⟨u138, hsw⟩ := hsw
      obtain ⟨u139, hsw⟩ := hsw
      obtain ⟨u140, hsw⟩ := hsw
      obtain ⟨u141, hsw⟩ := hsw
      obtain ⟨u142, hsw⟩ := hsw
      obtain ⟨u143, hsw⟩ := hsw
      obtain ⟨u144, hsw⟩ := hsw
      obtain ⟨u145, hsw⟩ := hsw
      obtain ⟨u146, hsw⟩ := hsw
      obtain ⟨u147, hsw⟩ := hsw
      obtain ⟨u148, hsw⟩ := hsw
      obtain ⟨u149, hsw⟩ := hsw
      obtain ⟨u150, hsw⟩ := hsw
      obtain ⟨u151, hsw⟩ := hsw
      obtain ⟨u152, hsw⟩ := hsw
      obtain ⟨u153, hsw⟩ := hsw
      obtain ⟨u154, hsw⟩ := hsw
      obtain ⟨u155, hsw⟩ := hsw
      obtain ⟨u156, hsw⟩ := hsw
      obtain ⟨u157, hsw⟩ := hsw
      obtain ⟨u158, hsw⟩ := hsw
      obtain ⟨u159, hsw⟩ := hsw
      obtain ⟨u160, hsw⟩ := hsw
      obtain ⟨u161, hsw⟩ := hsw
      obtain ⟨u162, hsw⟩ := hsw
      obtain ⟨u163, hsw⟩ := hsw
      obtain ⟨u164, hsw⟩ := hsw
      obtain ⟨u165, hsw⟩ := hsw
      obtain ⟨u166, hsw⟩ := hsw
      obtain ⟨u167, hsw⟩ := hsw
      obtain ⟨u168, hsw⟩ := hsw
      obtain ⟨u169, hsw⟩ := hsw
      obtain ⟨u170, hsw⟩ := hsw
      obtain ⟨u171, hsw⟩ := hsw
      obtain ⟨u172, hsw⟩ := hsw
      obtain ⟨u173, hsw⟩ := hsw
      obtain ⟨u174, hsw⟩ := hsw
      obtain ⟨u175, hsw⟩ := hsw
      obtain ⟨u176, hsw⟩ := hsw
      obtain ⟨u177, hsw⟩ := hsw
      obtain ⟨u178, hsw⟩ := hsw
      obtain ⟨u179, hsw⟩ := hsw
      obtain ⟨u180, hsw⟩ := hsw
      obtain ⟨u181, hsw⟩ := hsw
      obtain ⟨u182, hsw⟩ := hsw
      obtain ⟨u183, hsw⟩ := hsw
      obtain ⟨u184, hsw⟩ := hsw
      obtain ⟨u185, hsw⟩ := hsw
      obtain ⟨u186, hsw⟩ := hsw
      obtain ⟨u187, hsw⟩ := hsw
      obtain ⟨u188, hsw⟩ := hsw
      obtain ⟨u189, hsw⟩ := hsw
      obtain ⟨u190, hsw⟩ := hsw
      obtain ⟨u191, hsw⟩ := hsw
      obtain ⟨u192, hsw⟩ := hsw
      obtain ⟨u193, hsw⟩ := hsw
      obtain ⟨u194, hsw⟩ := hsw
      obtain ⟨u195, hsw⟩ := hsw
      obtain ⟨u196, hsw⟩ := hsw
      obtain ⟨u197, hsw⟩ := hsw
      obtain ⟨u198, hsw⟩ := hsw
      obtain ⟨u199, hsw⟩ := hsw
      obtain ⟨u200, hsw⟩ := hsw
      obtain ⟨u201, hsw⟩ := hsw
      obtain ⟨u202, hsw⟩ := hsw
      obtain ⟨u203, hsw⟩ := hsw
      obtain ⟨u204, hsw⟩ := hsw
      obtain ⟨u205, hsw⟩ := hsw
      obtain ⟨u206, hsw⟩ := hsw
      obtain ⟨u207, hsw⟩ := hsw
      obtain ⟨u208, hsw⟩ := hsw
      obtain ⟨u209, hsw⟩ := hsw
      obtain ⟨u210, hsw⟩ := hsw
      obtain ⟨u211, hsw⟩ := hsw
      obtain ⟨u212, hsw⟩ := hsw
      obtain ⟨u213, hsw⟩ := hsw
      obtain ⟨u214, hsw⟩ := hsw
      obtain ⟨u215, hsw⟩ := hsw
      obtain ⟨u216, hsw⟩ := hsw
      obtain ⟨u217, hsw⟩ := hsw
      obtain ⟨u218, hsw⟩ := hsw
      obtain ⟨u219, hsw⟩ := hsw
      obtain ⟨u220, hsw⟩ := hsw
      obtain ⟨d', p', q', v', Ds', ⟨hlp', hn'⟩, ha⟩ := hsw
      subst ha
      dsimp only [Exit.inBlock, Exit.then]
      have e1' : IntKind.i64.wrap ((at_ : Int) + n') = (at_ : Int) + n' := by rw [IntKind.wrap_i64]; omega
      have e3' : IntKind.u64.wrap ((at_ : Int) + n') = (at_ : Int) + n' := by rw [IntKind.wrap_u64]; omega
      have e4' : IntKind.i64.wrap ((I : Int) + 1) = (I : Int) + 1 := by rw [IntKind.wrap_i64]; omega
      have cb' : w''.cell? ⟨bn, 0, none⟩ = some (.int .i64 (n' : Int)) := by rw [cell_of_row w'' bn 0 _ _ _ hn']; rfl
      have HLP := Lib.hid hlp'
      clear hlp' hn'
      go_wp2_with (go_at_call 40; refine (sat_any d' p' q' n f cl mu (at_ + n') _ GN Sc _ _ HLP.out.1).mono ?_; rintro e w9 ⟨rfl, rfl⟩)
      refine ⟨⟨_, _, _, _, _, _, _, _, _, _, _, _, _, _, _, _, _, _, _, _, _, _, _, _, _, _, _, _, _, _, _, _, _, _, _, _, _, _, _, _, _, _, _, _, _, _, _, _, _, _, _, _, _, _, _, _, _, _, _, _, _, _, _, _, _, _, _, _, _, _, _, _, _, _, _, _, _, _, _, _, _, _, _, _, _, _, _, _, _, _, _, _, _, _, _, _, _, _, _, _, _, _, _, _, _, _, _, _, _, _, _, _, _, _, _, _, _, _, _, _, _, _, _, _, _, _, _, _, _, _, _, _, _, _, _, _, _, _, _, _, _, _, _, _, _, _, _, _, _, _, _, _, _, _, _, _, _, _, _, _, _, _, _, _, _, _, _, _, _, _, _, _, _, _, _, _, _, _, _, _, _, _, _, _, _, _, _, _, _, _, _, _, _, _, _, _, _, _, _, _, _, _, _, _, _, _, _, _, _, _, _, _, _, at_ + n', I + 1, d', p', q', v', Ds', m1, by omega, HLP.out, rfl⟩, by simp [Lmu, intOf]; omega⟩

end Go.Proofs.Ytnmpofjegepmaaa
