/- WholeStreams: the switch within a round. -/
import Derived.Test.YtnmpofjegepmaaaU6
import Derived.Deep.CutRange
import Derived.Deep.QuietTactic
import Derived.BigQuiet
namespace Go.Proofs.Ytnmpofjegepmaaa
open Go.RowKit Go.Shelf Go.Proofs.Ytnmpofjegepmaaa.Fl Go.Proofs.Ytnmpofjegepmaaa.Pt

/-- What stands within the function's block 2. -/
def findSw : Code → Option Code
  | .loop c => findSw c
  | .seq a b => match findSw a with
    | some c => some c
    | none => findSw b
  | .block n c => bif n == 2 then (match c with | .seq _ y => some y | _ => none) else findSw c
  | .scope c => findSw c
  | .cond _ a b => match findSw a with
    | some c => some c
    | none => findSw b
  | _ => none
noncomputable def sw : Code := ((Try.f7.body.bind findSw).getD .skip)
theorem OR.ne_tag {w : World} {base t t' size n b : Nat} {v : Value} {xs : Nat → C} {cs : Array Value} {z : Nat × Nat} (h : OR w base t size v n xs) (hb : w.heap[b]? = some (.cells cs t' z)) (ht : t ≠ t') : ∀ g, v.ownBlock = some g → g ≠ b := by
  rintro g hg rfl
  rcases h.form with ⟨rfl, _⟩ | ⟨g', c', rfl, _, _, cs', h2, _⟩
  · simp [Value.ownBlock] at hg
  · simp [Value.ownBlock] at hg
    subst hg
    rw [h2] at hb
    simp at hb
    exact ht hb.2.1
theorem one_rc' (w : World) (a b k : Nat) (F : Nat → C) (h : wf (a, b)) (hx : ccn (a, b) = F k) : RC (w.alloc (.cells #[.complex .f64 a b] 25)) w.heap.size 0 (1 * 1) (fun j => F (k + j)) := by
  intro j hj
  have h0 : j = 0 := by omega
  subst h0
  exact ⟨(a, b), by simp [go_sem, V], h, hx⟩
theorem Gp.stm {wB w5 w6 : World} {d0 q0 b21 n a : Nat} {f cl mu : Bool} {Sc xs : Nat → C} {v v' : Value} {Ex Ds : List Nat} {d p q m at_ ch : Nat} {f' c' m' : Bool} {g : C} {S1 St : Nat → C} (hG : Gp wB w5 d0 q0 b21 n f cl mu Sc xs a v Ex Ds) (hgr : w5.grownBy w6 v.ownBlock) (h : Stm w5 d p q m f' c' m' at_ ch g S1 St)
    (he : d ∈ Ex ∧ p ∈ Ex ∧ q ∈ Ex) (hb : b21 ≠ d ∧ b21 ≠ p ∧ b21 ≠ q) : Stm (w6.setCell ⟨b21, 0, none⟩ v') d p q m f' c' m' at_ ch g S1 St := by
  have hb6 := But.of_grown hgr
  have hb7 : But [b21] w6 (w6.setCell ⟨b21, 0, none⟩ v') := (But.refl _ _).setCell _ _ (.inl (by simp))
  have hne : ∀ i ∈ Ex, i ∉ v.ownBlock.toList := fun i hi hm => hG.2.2.2.1 i (by simpa using hm) hi
  exact (h.keep hb6 (hne d he.1) (hne p he.2.1) (hne q he.2.2)).keep hb7 (by simpa using hb.1.symm) (by simpa using hb.2.1.symm) (by simpa using hb.2.2.symm)
theorem Gp.blk {wB w5 w6 : World} {d0 q0 b21 n a bn : Nat} {f cl mu : Bool} {Sc xs : Nat → C} {v v' x : Value} {Ex Ds : List Nat} (hG : Gp wB w5 d0 q0 b21 n f cl mu Sc xs a v Ex Ds) (hgr : w5.grownBy w6 v.ownBlock)
    (hn : w5.heap[bn]? = some (.cells #[x] 3 (0, 0))) (hnb : bn ≠ b21) : (w6.setCell ⟨b21, 0, none⟩ v').heap[bn]? = some (.cells #[x] 3 (0, 0)) := by
  have hb6 := But.of_grown hgr
  have hb7 : But [b21] w6 (w6.setCell ⟨b21, 0, none⟩ v') := (But.refl _ _).setCell _ _ (.inl (by simp))
  exact hb7.heap (hb6.heap hn (fun hm => hG.2.1.ne_tag hn (by decide) bn (by simpa using hm) rfl)) (by simpa using hnb)
theorem Gp.rc {wB w5 w6 : World} {d0 q0 b21 n a gx M : Nat} {f cl mu : Bool} {Sc xs : Nat → C} {v v' : Value} {Ex Ds : List Nat} {ys : Nat → C} (hG : Gp wB w5 d0 q0 b21 n f cl mu Sc xs a v Ex Ds) (hgr : w5.grownBy w6 v.ownBlock)
    (hx : RC w5 gx 0 M ys) (h1 : gx < wB.heap.size) (hnb : gx ≠ b21) : RC (w6.setCell ⟨b21, 0, none⟩ v') gx 0 M ys := by
  have hb6 := But.of_grown hgr
  have hb7 : But [b21] w6 (w6.setCell ⟨b21, 0, none⟩ v') := (But.refl _ _).setCell _ _ (.inl (by simp))
  exact (hx.keep hb6 (fun hm => by have := (hG.2.1.lt gx (by simpa using hm)).1; omega)).keep hb7 (by simpa using hnb)
/-- One piece of answers more. -/
theorem Lp.next {wB w5 w6 : World} {d0 p0 q0 b21 n d p q at_ n' bn : Nat} {f cl mu : Bool} {Sc xs : Nat → C} {v v' : Value} {Ds : List Nat} {x : Value} (hS : S0 w5 d p q n f cl mu GN Sc xs (at_ + n')) (hG : Gp wB w5 d0 q0 b21 n f cl mu Sc xs at_ v [d, p, q] Ds)
    (hdd : d = d0 ∨ wB.heap.size ≤ d) (hpp : p = p0 ∨ wB.heap.size ≤ p) (hqq : q = q0 ∨ wB.heap.size ≤ q) (hnd : Ds.Nodup) (h21 : b21 < wB.heap.size) (hbe : b21 ≠ d ∧ b21 ≠ p ∧ b21 ≠ q) (hgr : w5.grownBy w6 v.ownBlock)
    (hor : OR w6 wB.heap.size 25 1 v' (at_ + n') (cat (at_ * 1) (qYs f cl mu n GN Sc (fun _ => Z0) xs) (fun j => qYs f cl mu n GN Sc (fun _ => Z0) xs (at_ + j)))) (hob : v'.ownBlock = v.ownBlock ∨ v'.ownBlock = some w5.heap.size)
    (hn : w5.heap[bn]? = some (.cells #[x] 3 (0, 0))) (hnb : bn ≠ b21) :
    Lp wB (w6.setCell ⟨b21, 0, none⟩ v') d0 p0 q0 b21 n f cl mu Sc xs (at_ + n') d p q v' Ds ∧ (w6.setCell ⟨b21, 0, none⟩ v').heap[bn]? = some (.cells #[x] 3 (0, 0)) := by
  have hb6 := But.of_grown hgr
  have hb7 : But [b21] w6 (w6.setCell ⟨b21, 0, none⟩ v') := (But.refl _ _).setCell _ _ (.inl (by simp))
  have hEx := hG.2.2.2.1
  have hne : ∀ i ∈ [d, p, q], i ∉ v.ownBlock.toList := fun i hi hm => hEx i (by simpa using hm) hi
  have e1 := hS.keep hb6 (hne d (by simp)) (hne p (by simp)) (hne q (by simp))
  have e2 := e1.keep hb7 (by simpa using hbe.1.symm) (by simpa using hbe.2.1.symm) (by simpa using hbe.2.2.symm)
  refine ⟨⟨e2, hG.app h21 hgr hor hob (fun e he => ?_), hdd, hpp, hqq, hnd⟩, hb7.heap (hb6.heap hn (fun hm => hG.2.1.ne_tag hn (by decide) bn (by simpa using hm) rfl)) (by simpa using hnb)⟩
  simp at he
  rcases he with rfl | rfl | rfl
  · exact hS.dl
  · exact hS.pl
  · exact hS.ql
set_option maxRecDepth 100000 in
/-- What stands behind the switch. -/
def SwP (wB : World) (K V0 : Option Addr) (nc kc b12 gx M c vk b21 at_ I bn n' d0 p0 q0 n : Nat) (f cl mu : Bool) (Sc xs : Nat → C) (a' : Act) (w' : World) : Prop :=
  ∃ u0 u1 u3 u4 u5 u6 u7 u8 u9 u10 u11 u13 u14 u17 u18 u19 u25 u26 u27 u28 u29 u30 u31 u32 u33 u34 u35 u36 u37 u38 u39 u40 u41 u42 u43 u44 u45 u46 u47 u48 u49 u50 u51 u52 u53 u54 u55 u56 u57 u58 u59 u60 u61 u62 u63 u64 u65 u66 u67 u68 u69 u70 u71 u72 u73 u74 u75 u76 u77 u78 u79 u80 u81 u82 u83 u84 u85 u86 u87 u88 u89 u90 u91 u92 u93 u94 u95 u96 u97 u98 u99 u100 u101 u102 u103 u104 u105 u106 u107 u108 u109 u110 u111 u112 u113 u114 u115 u116 u117 u118 u119 u120 u121 u122 u123 u124 u125 u126 u127 u128 u129 u130 u131 u132 u133 u134 u135 u136 u137 u138 u139 u140 u141 u142 u143 u144 u145 u146 u147 u148 u149 u150 u151 u152 u153 u154 u155 u156 u157 u158 u159 u160 u161 u162 u163 u164 u165 u166 u167 u168 u169 u170 u171 u172 u173 u174 u175 u176 u177 u178 u179 u180 u181 u182 u183 u184 u185 u186 u187 u188 u189 u190 u191 u192 u193 u194 u195 u196 u197 u198 u199 u200 u201 u202 u203 u204 u205 u206 u207 u208 u209 u210 u211 u212 u213 u214 u215 u216 u217 u218 u219 u220 : Value, ∃ (d p q : Nat) (v : Value) (Ds : List Nat), (Lp wB w' d0 p0 q0 b21 n f cl mu Sc xs (at_ + n') d p q v Ds ∧ w'.heap[bn]? = some (.cells #[.int .i64 (n' : Int)] 3 (0, 0))) ∧ a' = { tmps := #[u0, u1, .slice K nc kc, u3, u4, u5, u6, u7, u8, u9, u10, u11, .pointer (some ⟨b12, 0, none⟩), u13, u14, .slice (some ⟨gx, 0, none⟩) M c, .pointer (some ⟨d, 0, none⟩), u17, u18, u19, .slice V0 M vk, .pointer (some ⟨b21, 0, none⟩), .int .i64 (at_ : Int), .int .i64 (I : Int), .pointer (some ⟨bn, 0, none⟩), u25, u26, u27, u28, u29, u30, u31, u32, u33, u34, u35, u36, u37, u38, u39, u40, u41, u42, u43, u44, u45, u46, u47, u48, u49, u50, u51, u52, u53, u54, u55, u56, u57, u58, u59, u60, u61, u62, u63, u64, u65, u66, u67, u68, u69, u70, u71, u72, u73, u74, u75, u76, u77, u78, u79, u80, u81, u82, u83, u84, u85, u86, u87, u88, u89, u90, u91, u92, u93, u94, u95, u96, u97, u98, u99, u100, u101, u102, u103, u104, u105, u106, u107, u108, u109, u110, u111, u112, u113, u114, u115, u116, u117, u118, u119, u120, u121, u122, u123, u124, u125, u126, u127, u128, u129, u130, u131, u132, u133, u134, u135, u136, u137, u138, u139, u140, u141, u142, u143, u144, u145, u146, u147, u148, u149, u150, u151, u152, u153, u154, u155, u156, u157, u158, u159, u160, u161, u162, u163, u164, u165, u166, u167, u168, u169, u170, u171, u172, u173, u174, u175, u176, u177, u178, u179, u180, u181, u182, u183, u184, u185, u186, u187, u188, u189, u190, u191, u192, u193, u194, u195, u196, u197, u198, u199, u200, u201, u202, u203, u204, u205, u206, u207, u208, u209, u210, u211, u212, u213, u214, u215, u216, u217, u218, u219, u220], defers := marks Ds }

end Go.Proofs.Ytnmpofjegepmaaa
