/- WholeStreams: a round of its loop. -/
import Derived.Test.YtnmpofjegepmaaaU8
import Derived.Test.YtnmpofjegepmaaaU9
import Derived.Test.YtnmpofjegepmaaaU10
import Derived.Deep.CutRange
namespace Go.Proofs.Ytnmpofjegepmaaa
open Go.RowKit Go.Shelf Go.Proofs.Ytnmpofjegepmaaa.Fl Go.Proofs.Ytnmpofjegepmaaa.Pt

def firstLoop : Code → Option Code
  | .loop c => some c
  | .seq a b => match firstLoop a with
    | some c => some c
    | none => firstLoop b
  | .block _ c => firstLoop c
  | .scope c => firstLoop c
  | .cond _ a b => match firstLoop a with
    | some c => some c
    | none => firstLoop b
  | _ => none
noncomputable def lpb : Code := ((Try.f7.body.bind firstLoop).getD .skip)
set_option maxRecDepth 100000 in
/-- What stands between two rounds. -/
def LI (wB : World) (K X V0 : Option Addr) (nc kc b12 M c vk b21 d0 p0 q0 n : Nat) (f cl mu : Bool) (Sc xs : Nat → C) (a' : Act) (wr : World) : Prop :=
  ∃ u0 u1 u3 u4 u5 u6 u7 u8 u9 u10 u11 u13 u14 u17 u18 u19 u24 u25 u26 u27 u28 u29 u30 u31 u32 u33 u34 u35 u36 u37 u38 u39 u40 u41 u42 u43 u44 u45 u46 u47 u48 u49 u50 u51 u52 u53 u54 u55 u56 u57 u58 u59 u60 u61 u62 u63 u64 u65 u66 u67 u68 u69 u70 u71 u72 u73 u74 u75 u76 u77 u78 u79 u80 u81 u82 u83 u84 u85 u86 u87 u88 u89 u90 u91 u92 u93 u94 u95 u96 u97 u98 u99 u100 u101 u102 u103 u104 u105 u106 u107 u108 u109 u110 u111 u112 u113 u114 u115 u116 u117 u118 u119 u120 u121 u122 u123 u124 u125 u126 u127 u128 u129 u130 u131 u132 u133 u134 u135 u136 u137 u138 u139 u140 u141 u142 u143 u144 u145 u146 u147 u148 u149 u150 u151 u152 u153 u154 u155 u156 u157 u158 u159 u160 u161 u162 u163 u164 u165 u166 u167 u168 u169 u170 u171 u172 u173 u174 u175 u176 u177 u178 u179 u180 u181 u182 u183 u184 u185 u186 u187 u188 u189 u190 u191 u192 u193 u194 u195 u196 u197 u198 u199 u200 u201 u202 u203 u204 u205 u206 u207 u208 u209 u210 u211 u212 u213 u214 u215 u216 u217 u218 u219 u220 : Value, ∃ (at_ I d p q : Nat) (v : Value) (Ds : List Nat), at_ ≤ M ∧ I ≤ 2 * nc + 2 + at_ ∧ Lp wB wr d0 p0 q0 b21 n f cl mu Sc xs at_ d p q v Ds ∧ a' = { tmps := #[u0, u1, .slice K nc kc, u3, u4, u5, u6, u7, u8, u9, u10, u11, .pointer (some ⟨b12, 0, none⟩), u13, u14, .slice X M c, .pointer (some ⟨d, 0, none⟩), u17, u18, u19, .slice V0 M vk, .pointer (some ⟨b21, 0, none⟩), .int .i64 (at_ : Int), .int .i64 (I : Int), u24, u25, u26, u27, u28, u29, u30, u31, u32, u33, u34, u35, u36, u37, u38, u39, u40, u41, u42, u43, u44, u45, u46, u47, u48, u49, u50, u51, u52, u53, u54, u55, u56, u57, u58, u59, u60, u61, u62, u63, u64, u65, u66, u67, u68, u69, u70, u71, u72, u73, u74, u75, u76, u77, u78, u79, u80, u81, u82, u83, u84, u85, u86, u87, u88, u89, u90, u91, u92, u93, u94, u95, u96, u97, u98, u99, u100, u101, u102, u103, u104, u105, u106, u107, u108, u109, u110, u111, u112, u113, u114, u115, u116, u117, u118, u119, u120, u121, u122, u123, u124, u125, u126, u127, u128, u129, u130, u131, u132, u133, u134, u135, u136, u137, u138, u139, u140, u141, u142, u143, u144, u145, u146, u147, u148, u149, u150, u151, u152, u153, u154, u155, u156, u157, u158, u159, u160, u161, u162, u163, u164, u165, u166, u167, u168, u169, u170, u171, u172, u173, u174, u175, u176, u177, u178, u179, u180, u181, u182, u183, u184, u185, u186, u187, u188, u189, u190, u191, u192, u193, u194, u195, u196, u197, u198, u199, u200, u201, u202, u203, u204, u205, u206, u207, u208, u209, u210, u211, u212, u213, u214, u215, u216, u217, u218, u219, u220], defers := marks Ds }
def Lmu (M nc : Nat) (a' : Act) (_ : World) : Nat := (M - (intOf (a'.tmps.getD 22 undef)).toNat) + ((2 * nc + 2) - (intOf (a'.tmps.getD 23 undef)).toNat)

end Go.Proofs.Ytnmpofjegepmaaa
