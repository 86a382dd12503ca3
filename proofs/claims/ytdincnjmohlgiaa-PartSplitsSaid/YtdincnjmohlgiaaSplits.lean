/- quaverlaw01.PartSplits: every Of and Split, and Join of what Split answers is the number itself: for every input the law returns true. Without conditions. -/
import Derived.Test.YtdincnjmohlgiaaW4
import Derived.ProofKit
namespace Go.Proofs.Ytdincnjmohlgiaa
open Go.RowKit Go.Proofs.Ytdincnjmohlgiaa.Fl Go.Proofs.Ytdincnjmohlgiaa.Pt
open Go.ChangeShapes Go.WideShapes Go.ChangeAt

theorem join_split {b : Nat} (hb : b < 18446744073709551616) (h : cls b < 3) : wd (sgb b) (joinN (spm b) (spe b)) = b := by
  have h1 : b % SG < INF := by
    unfold cls at h; simp only [SG, ON, INF] at *
    by_cases c : b % 9223372036854775808 < 9218868437227405312
    · exact c
    · exfalso; revert h; repeat' (split; · omega)
      omega
  have m1 : spm b = mg (b % SG) := by
    unfold spm mg
    have : b % ON = b % SG % ON := by simp only [SG, ON]; omega
    rw [this, Nat.add_comm]
  have m2 : spe b + 1074 = sh (b % SG) := by
    unfold spe sh
    by_cases c : b % SG < ON
    · rw [if_pos c, Nat.div_eq_of_lt c]; rfl
    · rw [if_neg c]
      have : 1 ≤ b % SG / ON := by rw [Nat.le_div_iff_mul_le (by decide)]; omega
      omega
  have m3 : spm b < 18446744073709551616 := by
    unfold spm; simp only [SG, ON]; split <;> omega
  rw [joinN_RN m3, m1, m2]
  have := RN_scale (mg (b % SG)) (sh (b % SG)) (sh (b % SG))
  rw [← this, Int.sub_self]
  have e : mg (b % SG) * 2 ^ sh (b % SG) = V (b % SG) := rfl
  rw [e, RN_V _ (Nat.le_of_lt h1)]
  unfold wd sgb
  simp only [SG]
  by_cases c : 9223372036854775808 ≤ b
  · simp [c]; omega
  · simp [c]; omega

theorem split_facts {b : Nat} (hb : b < 18446744073709551616) :
    (Hid (splitV b = .tuple #[.bool false, .int .u64 0, .int .i64 0, .int .i64 5])) ∨
    (0 ≤ ((spm b : Nat) : Int) ∧ spm b < 18446744073709551616 ∧ Hid (splitV b = .tuple #[.bool (sgb b), .int .u64 (spm b), .int .i64 (spe b), .int .i64 0]) ∧ Hid (wd (sgb b) (joinN (spm b) (spe b)) = b)) := by
  by_cases c : 3 ≤ cls b
  · exact .inl (Lib.hid (by unfold splitV; rw [if_pos c]))
  · refine .inr ⟨by omega, ?_, Lib.hid (by unfold splitV; rw [if_neg c]), Lib.hid (join_split hb (by omega))⟩
    unfold spm; simp only [SG, ON]; split <;> omega

theorem splits_walk (b : Nat) (hb : b < 18446744073709551616) (w : World) :
    Calls Try.prog 4 #[.float .f64 b] w fun e w' => e = .returned (.bool true) ∧ w = w' := by
  have C15 := fun w => split_any b hb w
  have C16 := fun w => docsplit_any b hb w
  rcases split_facts hb with H | ⟨m0, m1, H, J⟩
  · rw [H.out] at C15 C16
    have K15 := Lib.hid C15
    have K16 := Lib.hid C16
    clear C15 C16
    go_enter Try.func4, Try.ntmps4
    go_wp2_with (first | (go_at_call 15; refine (K15.out _).mono ?_; rintro e w' ⟨rfl, rfl⟩) | (go_at_call 16; refine (K16.out _).mono ?_; rintro e w' ⟨rfl, rfl⟩) | (go_at_call 17; refine (awake_any _).mono ?_; rintro e w' ⟨rfl, rfl⟩) | (go_at_call 18; refine (of_any b hb _).mono ?_; rintro e w' ⟨rfl, rfl⟩) | (go_at_call 19; refine (class_any b hb _).mono ?_; rintro e w' ⟨rfl, rfl⟩))
    go_ret
    exact ⟨rfl, rfl⟩
  · rw [H.out] at C15 C16
    have K15 := Lib.hid C15
    have K16 := Lib.hid C16
    clear C15 C16
    have C21 := fun w => join_any (sgb b) (spm b : Nat) (spe b) (by omega) (by omega) w
    rw [Int.toNat_natCast, J.out] at C21
    have K21 := Lib.hid C21
    clear C21
    have C20 := fun w => eqv_any b b hb hb w
    rw [eqv_refl] at C20
    have K20 := Lib.hid C20
    clear C20
    go_enter Try.func4, Try.ntmps4
    go_wp2_with (first | (go_at_call 15; refine (K15.out _).mono ?_; rintro e w' ⟨rfl, rfl⟩) | (go_at_call 16; refine (K16.out _).mono ?_; rintro e w' ⟨rfl, rfl⟩) | (go_at_call 17; refine (awake_any _).mono ?_; rintro e w' ⟨rfl, rfl⟩) | (go_at_call 18; refine (of_any b hb _).mono ?_; rintro e w' ⟨rfl, rfl⟩) | (go_at_call 19; refine (class_any b hb _).mono ?_; rintro e w' ⟨rfl, rfl⟩) | (go_at_call 21; refine (K21.out _).mono ?_; rintro e w' ⟨rfl, rfl⟩) | (go_at_call 20; refine (K20.out _).mono ?_; rintro e w' ⟨rfl, rfl⟩))
    go_ret
    exact ⟨rfl, rfl⟩

theorem Try.own : ownKnob Try.prog.godebug = none := by kernel_rfl

set_option maxRecDepth 100000 in
theorem partSplits_lifted (os : Os) (started : os.Started) (H : Type) (enc : TypeId × Value → H) :
    ReturnsInHanded {} Try.checked os 4 .any (Rows.partSplitsSpec.pre6 enc Try.prog Try.f4 Rows.partSplitsRow.domain false) (Rows.partSplitsSpec.post enc Try.prog Try.f4 false true false false) := by
  refine returnsInHanded_of_change (C := Try.checked) Try.own started (by kernel_rfl) Try.func4
    (ChangeSpec.witness6 (enc := enc) (C := Try.checked) false ⟨#[], #[.float .f64 0], []⟩ 8 (by kernel_rfl) (by kernel_rfl) (by kernel_rfl) (by kernel_rfl)) ?_
  intro W base args ds gs before hval0 hW hcnd _
  have hval : ∀ (j : Nat) t v, Try.f4.params[j]? = some t → args[j]? = some v → Value.okWide Try.prog W .any base t v := hval0
  have hW' := hW
  obtain ⟨p, q, hA0, hV, rfl, hfz, hnd⟩ := hW
  have hA : DataW.TrodAll enc Try.prog W 0 (fun _ => true) true Try.f4.params.toList args.toList ds p := hA0
  rw [Try.params4] at hA hval
  obtain ⟨v0, d0, rfl, rfl, h0⟩ := trodAll_one hA
  obtain ⟨rfl, rfl⟩ := trodVars_none hV
  obtain ⟨x0, rfl, rfl, rfl, wx0⟩ := open_float Try.underlying31 (hval 0 31 v0 rfl rfl) h0
  have bd0 : x0 < 18446744073709551616 := by simpa [Lit.wf] using wx0
  clear hA0 hval0
  simp only [List.append_nil] at hW'
  refine (splits_walk x0 bd0 W).mono fun e W' ⟨he, hw⟩ => ?_
  subst he
  subst hw
  exact ⟨_, rfl, post_of_same (pa := []) (pv := []) hW' (fun _ _ _ => trodAll_mk1 (shut_bool Try.underlying4 _)) (fun sp _ => trodAll_mk1 (shut_float Try.underlying31 wx0)) (fun _ _ => rfl) rfl
    (World.keptBut_refl _ _) (fun _ => rfl) (ok_one (by kernel_rfl) rfl (okWide_bool_mk Try.underlying4 _))⟩

theorem partSplits_holds : Rows.PartSplitsSaid :=
  OpenClaim.holds_of_wide 4 Try.f4 rfl rfl rfl rfl rfl rfl rfl ⟨rfl, rfl, rfl, rfl, rfl⟩ rfl rfl rfl rfl rfl (by kernel_rfl) Try.func4 (by kernel_rfl)
    (of_decide_eq_true (by kernel_rfl)) (by unfold Func.isWrapper; rw [if_neg (of_decide_eq_false (by kernel_rfl))]; exact ⟨rfl, rfl⟩)
    (fun os started H enc _ => partSplits_lifted os started H enc)
end Go.Proofs.Ytdincnjmohlgiaa
