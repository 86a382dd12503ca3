/- quaverlaw01.PartFlushes: Flush changes just the subnormal numbers, to noughts of their sign, and nothing twice: for every input the law returns true. Without conditions. -/
import Derived.Test.YtdincnjmohlgiaaW4
import Derived.Test.YtdincnjmohlgiaaPo
import Derived.ProofKit
namespace Go.Proofs.Ytdincnjmohlgiaa
open Go.RowKit Go.Proofs.Ytdincnjmohlgiaa.Fl Go.Proofs.Ytdincnjmohlgiaa.Pt
open Go.ChangeShapes Go.WideShapes Go.ChangeAt

set_option maxRecDepth 100000 in
theorem flushes_walk (b : Nat) (hb : b < 18446744073709551616) (w : World) :
    Calls Try.prog 9 #[.float .f64 b] w fun e w' => e = .returned (.bool true) ∧ w = w' := by
  have l3 := flu_lt hb
  have ls := sgw_lt b
  have C30 := fun w => flush_any b hb w
  have C30' := fun w => flush_any (flu b) l3 w
  rw [flu_flu] at C30'
  have C20 : ∀ r, r < 18446744073709551616 → ∀ w, Calls Try.prog 20 #[.float .f64 r, .float .f64 r] w fun e w' => e = .returned (.bool true) ∧ w = w' := by
    intro r hr w
    have := eqv_any r r hr hr w
    rw [eqv_refl] at this
    exact this
  have C18 := fun w => of_any b hb w
  by_cases h : cls b = 1
  · have e : flu b = sgw b := by unfold flu; rw [if_pos h]
    rw [e] at C30 C30'
    rw [h] at C18
    have C18' := fun w => of_any (sgw b) ls w
    rw [cls_sgw] at C18'
    have C23 := fun w => signbit_any b hb w
    have C23' := fun w => signbit_any (sgw b) ls w
    rw [sgb_sgw] at C23'
    have z := sgw_zero b
    clear e h
    generalize sgw b = y at *
    generalize sgb b = s at *
    have K30 := Lib.hid C30
    have K30' := Lib.hid C30'
    have K18 := Lib.hid C18
    have K18' := Lib.hid C18'
    have K23 := Lib.hid C23
    have K23' := Lib.hid C23'
    have K20 := Lib.hid C20
    clear C30 C30' C18 C18' C23 C23' C20
    go_enter Try.func9, Try.ntmps9
    go_wp2_with fail
    refine (K30.out _).mono ?_
    rintro e w' ⟨rfl, rfl⟩
    go_wp2_with fail
    refine (awake_any _).mono ?_
    rintro e w' ⟨rfl, rfl⟩
    go_wp2_with fail
    refine (K30'.out _).mono ?_
    rintro e w' ⟨rfl, rfl⟩
    go_wp2_with fail
    refine (K20.out _ ls _).mono ?_
    rintro e w' ⟨rfl, rfl⟩
    go_wp2_with fail
    refine (K18.out _).mono ?_
    rintro e w' ⟨rfl, rfl⟩
    go_wp2_with fail
    refine (K18'.out _).mono ?_
    rintro e w' ⟨rfl, rfl⟩
    go_wp2_with fail
    refine (K23'.out _).mono ?_
    rintro e w' ⟨rfl, rfl⟩
    go_wp2_with fail
    refine (K23.out _).mono ?_
    rintro e w' ⟨rfl, rfl⟩
    go_wp2_with fail
    go_ret
    exact ⟨rfl, rfl⟩
  · have e : flu b = b := by unfold flu; rw [if_neg h]
    rw [e] at C30
    have h1 : (((cls b : Nat) : Int) == 1) = false := bf (by omega)
    clear e h C30'
    generalize cls b = c at *
    have K30 := Lib.hid C30
    have K18 := Lib.hid C18
    have K20 := Lib.hid C20
    clear C30 C18 C20
    go_enter Try.func9, Try.ntmps9
    go_wp2_with (first | (go_at_call 17; refine (awake_any _).mono ?_; rintro e w' ⟨rfl, rfl⟩) | (go_at_call 30; refine (K30.out _).mono ?_; rintro e w' ⟨rfl, rfl⟩) | (go_at_call 18; refine (K18.out _).mono ?_; rintro e w' ⟨rfl, rfl⟩) | (go_at_call 20; refine (K20.out _ hb _).mono ?_; rintro e w' ⟨rfl, rfl⟩))
    go_ret
    exact ⟨rfl, rfl⟩

theorem Try.own : ownKnob Try.prog.godebug = none := by kernel_rfl

set_option maxRecDepth 100000 in
theorem partFlushes_lifted (os : Os) (started : os.Started) (H : Type) (enc : TypeId × Value → H) :
    ReturnsInHanded {} Try.checked os 9 .any (Rows.partFlushesSpec.pre6 enc Try.prog Try.f9 Rows.partFlushesRow.domain false) (Rows.partFlushesSpec.post enc Try.prog Try.f9 false true false false) := by
  refine returnsInHanded_of_change (C := Try.checked) Try.own started (by kernel_rfl) Try.func9
    (ChangeSpec.witness6 (enc := enc) (C := Try.checked) false ⟨#[], #[.float .f64 0], []⟩ 8 (by kernel_rfl) (by kernel_rfl) (by kernel_rfl) (by kernel_rfl)) ?_
  intro W base args ds gs before hval0 hW hcnd _
  have hval : ∀ (j : Nat) t v, Try.f9.params[j]? = some t → args[j]? = some v → Value.okWide Try.prog W .any base t v := hval0
  have hW' := hW
  obtain ⟨p, q, hA0, hV, rfl, hfz, hnd⟩ := hW
  have hA : DataW.TrodAll enc Try.prog W 0 (fun _ => true) true Try.f9.params.toList args.toList ds p := hA0
  rw [Try.params9] at hA hval
  obtain ⟨v0, d0, rfl, rfl, h0⟩ := trodAll_one hA
  obtain ⟨rfl, rfl⟩ := trodVars_none hV
  obtain ⟨x0, rfl, rfl, rfl, wx0⟩ := open_float Try.underlying31 (hval 0 31 v0 rfl rfl) h0
  have bd0 : x0 < 18446744073709551616 := by simpa [Lit.wf] using wx0
  clear hA0 hval0
  simp only [List.append_nil] at hW'
  refine (flushes_walk x0 bd0 W).mono fun e W' ⟨he, hw⟩ => ?_
  subst he
  subst hw
  exact ⟨_, rfl, post_of_same (pa := []) (pv := []) hW' (fun _ _ _ => trodAll_mk1 (shut_bool Try.underlying4 _)) (fun sp _ => trodAll_mk1 (shut_float Try.underlying31 wx0)) (fun _ _ => rfl) rfl
    (World.keptBut_refl _ _) (fun _ => rfl) (ok_one (by kernel_rfl) rfl (okWide_bool_mk Try.underlying4 _))⟩

theorem partFlushes_holds : Rows.PartFlushesSaid :=
  OpenClaim.holds_of_wide 9 Try.f9 rfl rfl rfl rfl rfl rfl rfl ⟨rfl, rfl, rfl, rfl, rfl⟩ rfl rfl rfl rfl rfl (by kernel_rfl) Try.func9 (by kernel_rfl)
    (of_decide_eq_true (by kernel_rfl)) (by unfold Func.isWrapper; rw [if_neg (of_decide_eq_false (by kernel_rfl))]; exact ⟨rfl, rfl⟩)
    (fun os started H enc _ => partFlushes_lifted os started H enc)
end Go.Proofs.Ytdincnjmohlgiaa
