/- quaverlaw01.PartSteps: every Next, Prev and Flush is the reference's: for every input the law returns true. Without conditions. -/
import Derived.Test.YtdincnjmohlgiaaW4
import Derived.Test.YtdincnjmohlgiaaPo
import Derived.ProofKit
namespace Go.Proofs.Ytdincnjmohlgiaa
open Go.RowKit Go.Proofs.Ytdincnjmohlgiaa.Fl Go.Proofs.Ytdincnjmohlgiaa.Pt
open Go.ChangeShapes Go.WideShapes Go.ChangeAt

set_option maxRecDepth 100000 in
theorem steps_walk (b : Nat) (hb : b < 18446744073709551616) (w : World) :
    Calls Try.prog 10 #[.float .f64 b] w fun e w' => e = .returned (.bool true) ∧ w = w' := by
  have C31 := fun w => next_any b hb w
  have C32 := fun w => docnext_any b hb w
  have C33 := fun w => prev_any b hb w
  have C34 := fun w => docprev_any b hb w
  rw [nxt_dnx hb] at C31
  rw [prv_dpr hb] at C33
  have l1 := nxt_lt hb
  have l2 := prv_lt hb
  have l3 := flu_lt hb
  rw [nxt_dnx hb] at l1
  rw [prv_dpr hb] at l2
  have C30 := fun w => flush_any b hb w
  have C35 := fun w => refflush_any b hb w
  have C20 : ∀ r, r < 18446744073709551616 → ∀ w, Calls Try.prog 20 #[.float .f64 r, .float .f64 r] w fun e w' => e = .returned (.bool true) ∧ w = w' := by
    intro r hr w
    have := eqv_any r r hr hr w
    rw [eqv_refl] at this
    exact this
  have K31 := Lib.hid C31
  have K32 := Lib.hid C32
  have K33 := Lib.hid C33
  have K34 := Lib.hid C34
  have K30 := Lib.hid C30
  have K35 := Lib.hid C35
  have K20 := Lib.hid C20
  clear C31 C32 C33 C34 C30 C35 C20
  go_enter Try.func10, Try.ntmps10
  go_wp2_with (first | (go_at_call 17; refine (awake_any _).mono ?_; rintro e w' ⟨rfl, rfl⟩) | (go_at_call 31; refine (K31.out _).mono ?_; rintro e w' ⟨rfl, rfl⟩) | (go_at_call 32; refine (K32.out _).mono ?_; rintro e w' ⟨rfl, rfl⟩) | (go_at_call 33; refine (K33.out _).mono ?_; rintro e w' ⟨rfl, rfl⟩) | (go_at_call 34; refine (K34.out _).mono ?_; rintro e w' ⟨rfl, rfl⟩) | (go_at_call 30; refine (K30.out _).mono ?_; rintro e w' ⟨rfl, rfl⟩) | (go_at_call 35; refine (K35.out _).mono ?_; rintro e w' ⟨rfl, rfl⟩) | (go_at_call 20; refine (K20.out _ (by assumption) _).mono ?_; rintro e w' ⟨rfl, rfl⟩))
  go_ret
  exact ⟨rfl, rfl⟩

theorem Try.own : ownKnob Try.prog.godebug = none := by kernel_rfl

set_option maxRecDepth 100000 in
theorem partSteps_lifted (os : Os) (started : os.Started) (H : Type) (enc : TypeId × Value → H) :
    ReturnsInHanded {} Try.checked os 10 .any (Rows.partStepsSpec.pre6 enc Try.prog Try.f10 Rows.partStepsRow.domain false) (Rows.partStepsSpec.post enc Try.prog Try.f10 false true false false) := by
  refine returnsInHanded_of_change (C := Try.checked) Try.own started (by kernel_rfl) Try.func10
    (ChangeSpec.witness6 (enc := enc) (C := Try.checked) false ⟨#[], #[.float .f64 0], []⟩ 8 (by kernel_rfl) (by kernel_rfl) (by kernel_rfl) (by kernel_rfl)) ?_
  intro W base args ds gs before hval0 hW hcnd _
  have hval : ∀ (j : Nat) t v, Try.f10.params[j]? = some t → args[j]? = some v → Value.okWide Try.prog W .any base t v := hval0
  have hW' := hW
  obtain ⟨p, q, hA0, hV, rfl, hfz, hnd⟩ := hW
  have hA : DataW.TrodAll enc Try.prog W 0 (fun _ => true) true Try.f10.params.toList args.toList ds p := hA0
  rw [Try.params10] at hA hval
  obtain ⟨v0, d0, rfl, rfl, h0⟩ := trodAll_one hA
  obtain ⟨rfl, rfl⟩ := trodVars_none hV
  obtain ⟨x0, rfl, rfl, rfl, wx0⟩ := open_float Try.underlying31 (hval 0 31 v0 rfl rfl) h0
  have bd0 : x0 < 18446744073709551616 := by simpa [Lit.wf] using wx0
  clear hA0 hval0
  simp only [List.append_nil] at hW'
  refine (steps_walk x0 bd0 W).mono fun e W' ⟨he, hw⟩ => ?_
  subst he
  subst hw
  exact ⟨_, rfl, post_of_same (pa := []) (pv := []) hW' (fun _ _ _ => trodAll_mk1 (shut_bool Try.underlying4 _)) (fun sp _ => trodAll_mk1 (shut_float Try.underlying31 wx0)) (fun _ _ => rfl) rfl
    (World.keptBut_refl _ _) (fun _ => rfl) (ok_one (by kernel_rfl) rfl (okWide_bool_mk Try.underlying4 _))⟩

theorem partSteps_holds : Rows.PartStepsSaid :=
  OpenClaim.holds_of_wide 10 Try.f10 rfl rfl rfl rfl rfl rfl rfl ⟨rfl, rfl, rfl, rfl, rfl⟩ rfl rfl rfl rfl rfl (by kernel_rfl) Try.func10 (by kernel_rfl)
    (of_decide_eq_true (by kernel_rfl)) (by unfold Func.isWrapper; rw [if_neg (of_decide_eq_false (by kernel_rfl))]; exact ⟨rfl, rfl⟩)
    (fun os started H enc _ => partSteps_lifted os started H enc)
end Go.Proofs.Ytdincnjmohlgiaa
