/- quaverlaw01.PartJoins: every Join is the reference's: for every input the law returns true. Without conditions. -/
import Derived.Test.YtdincnjmohlgiaaW4
import Derived.ProofKit
namespace Go.Proofs.Ytdincnjmohlgiaa
open Go.RowKit Go.Proofs.Ytdincnjmohlgiaa.Fl Go.Proofs.Ytdincnjmohlgiaa.Pt
open Go.ChangeShapes Go.WideShapes Go.ChangeAt

theorem joins_walk (n : Bool) (m e : Int) (m0 : 0 ≤ m) (m1 : m < 18446744073709551616) (_e0 : -9223372036854775808 ≤ e) (_e1 : e ≤ 9223372036854775807) (w : World) :
    Calls Try.prog 5 #[.bool n, .int .u64 m, .int .i64 e] w fun e w' => e = .returned (.bool true) ∧ w = w' := by
  obtain ⟨m, rfl⟩ := Int.eq_ofNat_of_zero_le m0
  have hm : m < 18446744073709551616 := by omega
  have hb : wd n (joinN m e) < 18446744073709551616 := wd_lt n (Nat.lt_of_le_of_lt (by rw [joinN_RN hm]; exact RN_le _ _) (by decide))
  have C21 := fun w => join_any n m e m0 m1 w
  rw [Int.toNat_natCast] at C21
  have C22 := fun w => docjoin_any n m e hm w
  generalize wd n (joinN m e) = r at *
  have C20 := fun w => eqv_any r r hb hb w
  rw [eqv_refl] at C20
  have K20 := Lib.hid C20
  have K21 := Lib.hid C21
  have K22 := Lib.hid C22
  clear C20 C21 C22
  go_enter Try.func5, Try.ntmps5
  go_wp2_with (first | (go_at_call 17; refine (awake_any _).mono ?_; rintro e w' ⟨rfl, rfl⟩) | (go_at_call 21; refine (K21.out _).mono ?_; rintro e w' ⟨rfl, rfl⟩) | (go_at_call 22; refine (K22.out _).mono ?_; rintro e w' ⟨rfl, rfl⟩) | (go_at_call 20; refine (K20.out _).mono ?_; rintro e w' ⟨rfl, rfl⟩))
  go_ret
  exact ⟨rfl, rfl⟩

theorem Try.own : ownKnob Try.prog.godebug = none := by kernel_rfl

set_option maxRecDepth 100000 in
theorem partJoins_lifted (os : Os) (started : os.Started) (H : Type) (enc : TypeId × Value → H) :
    ReturnsInHanded {} Try.checked os 5 .any (Rows.partJoinsSpec.pre6 enc Try.prog Try.f5 Rows.partJoinsRow.domain false) (Rows.partJoinsSpec.post enc Try.prog Try.f5 false true false false) := by
  refine returnsInHanded_of_change (C := Try.checked) Try.own started (by kernel_rfl) Try.func5
    (ChangeSpec.witness6 (enc := enc) (C := Try.checked) false ⟨#[], #[.bool false, .int .u64 0, .int .i64 0], []⟩ 8 (by kernel_rfl) (by kernel_rfl) (by kernel_rfl) (by kernel_rfl)) ?_
  intro W base args ds gs before hval0 hW hcnd _
  have hval : ∀ (j : Nat) t v, Try.f5.params[j]? = some t → args[j]? = some v → Value.okWide Try.prog W .any base t v := hval0
  have hW' := hW
  obtain ⟨p, q, hA0, hV, rfl, hfz, hnd⟩ := hW
  have hA : DataW.TrodAll enc Try.prog W 0 (fun _ => true) true Try.f5.params.toList args.toList ds p := hA0
  rw [Try.params5] at hA hval
  obtain ⟨v0, v1, v2, d0, d1, d2, p0, p1, p2, rfl, rfl, rfl, h0, h1, h2⟩ := trodAll_three hA
  obtain ⟨rfl, rfl⟩ := trodVars_none hV
  obtain ⟨x0, rfl, rfl, rfl⟩ := open_bool Try.underlying4 (hval 0 4 v0 rfl rfl) h0
  obtain ⟨x1, rfl, rfl, rfl, wx1⟩ := open_int Try.underlying37 (hval 1 37 v1 rfl rfl) h1
  obtain ⟨x2, rfl, rfl, rfl, wx2⟩ := open_int Try.underlying3 (hval 2 3 v2 rfl rfl) h2
  have bd1 := wx1
  simp [Lit.wf, IntKind.min, IntKind.max, IntKind.signed, IntKind.bits] at bd1
  have bd2 := wx2
  simp [Lit.wf, IntKind.min, IntKind.max, IntKind.signed, IntKind.bits] at bd2
  clear hA0 hval0
  simp only [List.append_nil] at hW'
  refine (joins_walk x0 x1 x2 (by omega) (by omega) (by omega) (by omega) W).mono fun e W' ⟨he, hw⟩ => ?_
  subst he
  subst hw
  exact ⟨_, rfl, post_of_same (pa := []) (pv := []) hW' (fun _ _ _ => trodAll_mk1 (shut_bool Try.underlying4 _)) (fun sp _ => trodAll_mk3 (shut_bool Try.underlying4 x0) (shut_int Try.underlying37 wx1) (shut_int Try.underlying3 wx2)) (fun _ _ => rfl) rfl
    (World.keptBut_refl _ _) (fun _ => rfl) (ok_one (by kernel_rfl) rfl (okWide_bool_mk Try.underlying4 _))⟩

theorem partJoins_holds : Rows.PartJoinsSaid :=
  OpenClaim.holds_of_wide 5 Try.f5 rfl rfl rfl rfl rfl rfl rfl ⟨rfl, rfl, rfl, rfl, rfl⟩ rfl rfl rfl rfl rfl (by kernel_rfl) Try.func5 (by kernel_rfl)
    (of_decide_eq_true (by kernel_rfl)) (by unfold Func.isWrapper; rw [if_neg (of_decide_eq_false (by kernel_rfl))]; exact ⟨rfl, rfl⟩)
    (fun os started H enc _ => partJoins_lifted os started H enc)
end Go.Proofs.Ytdincnjmohlgiaa
