/- quaverlaw01.PartPairs: every Ulps, Same and Order is the reference's: for every input the law returns true. Without conditions. -/
import Derived.Test.YtdincnjmohlgiaaW4
import Derived.Test.YtdincnjmohlgiaaPo
import Derived.ProofKit
namespace Go.Proofs.Ytdincnjmohlgiaa
open Go.RowKit Go.Proofs.Ytdincnjmohlgiaa.Fl Go.Proofs.Ytdincnjmohlgiaa.Pt
open Go.ChangeShapes Go.WideShapes Go.ChangeAt

theorem ulpV_form (a b : Nat) : ∃ n e : Int, ulpV a b = .tuple #[.int .u64 n, .int .i64 e] := by
  unfold ulpV; split
  · exact ⟨_, _, rfl⟩
  · exact ⟨_, _, rfl⟩

set_option maxRecDepth 100000 in
theorem pairs_walk (a b : Nat) (ha : a < 18446744073709551616) (hb : b < 18446744073709551616) (w : World) :
    Calls Try.prog 7 #[.float .f64 a, .float .f64 b] w fun e w' => e = .returned (.bool true) ∧ w = w' := by
  have C24 := fun w => ulps_any a b ha hb w
  have C25 := fun w => doculps_any a b ha hb w
  rw [← ulpV_dulV ha hb] at C25
  obtain ⟨n, f, hv⟩ := ulpV_form a b
  rw [hv] at C24 C25
  clear hv
  have C26 := fun w => same_any a b ha hb w
  have C27 := fun w => refsame_any a b ha hb w
  rw [← same_idx ha hb] at C27
  have C28 := fun w => order_any a b ha hb w
  have C29 := fun w => reforder_any a b ha hb w
  rw [← ordr_idx ha hb] at C29
  generalize (ordr (rnk a) (rnk b) == 0) = s at *
  generalize ordr (rnk a) (rnk b) = o at *
  have K24 := Lib.hid C24
  have K25 := Lib.hid C25
  have K26 := Lib.hid C26
  have K27 := Lib.hid C27
  have K28 := Lib.hid C28
  have K29 := Lib.hid C29
  clear C24 C25 C26 C27 C28 C29
  go_enter Try.func7, Try.ntmps7
  go_wp2_with (first | (go_at_call 17; refine (awake_any _).mono ?_; rintro e w' ⟨rfl, rfl⟩) | (go_at_call 24; refine (K24.out _).mono ?_; rintro e w' ⟨rfl, rfl⟩) | (go_at_call 25; refine (K25.out _).mono ?_; rintro e w' ⟨rfl, rfl⟩) | (go_at_call 26; refine (K26.out _).mono ?_; rintro e w' ⟨rfl, rfl⟩) | (go_at_call 27; refine (K27.out _).mono ?_; rintro e w' ⟨rfl, rfl⟩) | (go_at_call 28; refine (K28.out _).mono ?_; rintro e w' ⟨rfl, rfl⟩) | (go_at_call 29; refine (K29.out _).mono ?_; rintro e w' ⟨rfl, rfl⟩))
  go_ret
  exact ⟨rfl, rfl⟩

theorem Try.own : ownKnob Try.prog.godebug = none := by kernel_rfl

set_option maxRecDepth 100000 in
theorem partPairs_lifted (os : Os) (started : os.Started) (H : Type) (enc : TypeId × Value → H) :
    ReturnsInHanded {} Try.checked os 7 .any (Rows.partPairsSpec.pre6 enc Try.prog Try.f7 Rows.partPairsRow.domain false) (Rows.partPairsSpec.post enc Try.prog Try.f7 false true false false) := by
  refine returnsInHanded_of_change (C := Try.checked) Try.own started (by kernel_rfl) Try.func7
    (ChangeSpec.witness6 (enc := enc) (C := Try.checked) false ⟨#[], #[.float .f64 0, .float .f64 0], []⟩ 8 (by kernel_rfl) (by kernel_rfl) (by kernel_rfl) (by kernel_rfl)) ?_
  intro W base args ds gs before hval0 hW hcnd _
  have hval : ∀ (j : Nat) t v, Try.f7.params[j]? = some t → args[j]? = some v → Value.okWide Try.prog W .any base t v := hval0
  have hW' := hW
  obtain ⟨p, q, hA0, hV, rfl, hfz, hnd⟩ := hW
  have hA : DataW.TrodAll enc Try.prog W 0 (fun _ => true) true Try.f7.params.toList args.toList ds p := hA0
  rw [Try.params7] at hA hval
  obtain ⟨v0, v1, d0, d1, p0, p1, rfl, rfl, rfl, h0, h1⟩ := trodAll_two hA
  obtain ⟨rfl, rfl⟩ := trodVars_none hV
  obtain ⟨x0, rfl, rfl, rfl, wx0⟩ := open_float Try.underlying31 (hval 0 31 v0 rfl rfl) h0
  obtain ⟨x1, rfl, rfl, rfl, wx1⟩ := open_float Try.underlying31 (hval 1 31 v1 rfl rfl) h1
  have bd0 : x0 < 18446744073709551616 := by simpa [Lit.wf] using wx0
  have bd1 : x1 < 18446744073709551616 := by simpa [Lit.wf] using wx1
  clear hA0 hval0
  simp only [List.append_nil] at hW'
  refine (pairs_walk x0 x1 bd0 bd1 W).mono fun e W' ⟨he, hw⟩ => ?_
  subst he
  subst hw
  exact ⟨_, rfl, post_of_same (pa := []) (pv := []) hW' (fun _ _ _ => trodAll_mk1 (shut_bool Try.underlying4 _)) (fun sp _ => trodAll_mk2 (shut_float Try.underlying31 wx0) (shut_float Try.underlying31 wx1)) (fun _ _ => rfl) rfl
    (World.keptBut_refl _ _) (fun _ => rfl) (ok_one (by kernel_rfl) rfl (okWide_bool_mk Try.underlying4 _))⟩

theorem partPairs_holds : Rows.PartPairsSaid :=
  OpenClaim.holds_of_wide 7 Try.f7 rfl rfl rfl rfl rfl rfl rfl ⟨rfl, rfl, rfl, rfl, rfl⟩ rfl rfl rfl rfl rfl (by kernel_rfl) Try.func7 (by kernel_rfl)
    (of_decide_eq_true (by kernel_rfl)) (by unfold Func.isWrapper; rw [if_neg (of_decide_eq_false (by kernel_rfl))]; exact ⟨rfl, rfl⟩)
    (fun os started H enc _ => partPairs_lifted os started H enc)
end Go.Proofs.Ytdincnjmohlgiaa
