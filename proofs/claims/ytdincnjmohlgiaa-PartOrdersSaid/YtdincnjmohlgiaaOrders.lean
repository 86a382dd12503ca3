/- quaverlaw01.PartOrders: the order is one: for every input the law returns true. Without conditions. -/
import Derived.Test.YtdincnjmohlgiaaW4
import Derived.Test.YtdincnjmohlgiaaPo
import Derived.ProofKit
import Derived.Deep.Cut
namespace Go.Proofs.Ytdincnjmohlgiaa
open Go.RowKit Go.Proofs.Ytdincnjmohlgiaa.Fl Go.Proofs.Ytdincnjmohlgiaa.Pt
open Go.ChangeShapes Go.WideShapes Go.ChangeAt

/-- The floats' own order, by ranks: what is less by it has the lesser rank. -/
theorem rk_rnk {b : Nat} (h : nan b = false) : rk b = if 9223372036854775808 ≤ b then rnk b + 1 else rnk b := by
  rw [rnk_num h]; unfold rk; simp only [SG]
  by_cases c : 9223372036854775808 ≤ b
  · rw [if_pos c, if_pos c, if_pos c]; omega
  · rw [if_neg c, if_neg c, if_neg c]
theorem cmp_facts {x y : Nat} (hx : x < 18446744073709551616) (hy : y < 18446744073709551616) :
    (nan x = true ∧ (FloatKind.f64.format.order x y == some .lt) = false ∧ (FloatKind.f64.format.order x y == some .gt) = false) ∨
    (nan x = false ∧ nan y = true ∧ (FloatKind.f64.format.order x y == some .lt) = false ∧ (FloatKind.f64.format.order x y == some .gt) = false) ∨
    (nan x = false ∧ nan y = false ∧ (FloatKind.f64.format.order x y == some .lt) = decide (rk x < rk y) ∧ (FloatKind.f64.format.order x y == some .gt) = decide (rk y < rk x)) := by
  have e : FloatKind.f64.format.order x y = Ieee.double.order x y := rfl
  rw [e, order_eq hx hy]
  cases h1 : nan x
  · cases h2 : nan y
    · refine .inr (.inr ⟨rfl, rfl, ?_, ?_⟩)
      · simp only [Bool.or_self, Bool.false_eq_true, if_false]
        rw [cmp_int]
        rcases Int.lt_trichotomy (rk x) (rk y) with c | c | c
        · rw [if_pos c]; simp [c]
        · rw [if_neg (by omega), if_pos c, c]; simp
        · rw [if_neg (by omega), if_neg (by omega)]; simp; omega
      · simp only [Bool.or_self, Bool.false_eq_true, if_false]
        rw [cmp_int]
        rcases Int.lt_trichotomy (rk x) (rk y) with c | c | c
        · rw [if_pos c]; simp; omega
        · rw [if_neg (by omega), if_pos c, c]; simp
        · rw [if_neg (by omega), if_neg (by omega)]; simp [c]
    · exact .inr (.inl ⟨rfl, rfl, by simp, by simp⟩)
  · exact .inl ⟨rfl, by simp, by simp⟩

theorem ordr_lt {x y : Int} (h : x < y) : ordr x y = -1 := by unfold ordr; rw [if_pos h]
theorem ordr_eq {x y : Int} (h : x = y) : ordr x y = 0 := by unfold ordr; rw [if_neg (by omega), if_neg (by omega)]
theorem ordr_gt {x y : Int} (h : y < x) : ordr x y = 1 := by unfold ordr; rw [if_neg (by omega), if_pos h]

/-- All that the law asks of three numbers. -/
theorem orders_walk_of (x y z : Nat) (hx : x < 18446744073709551616) (hy : y < 18446744073709551616) (hz : z < 18446744073709551616) (a b c d : Int)
    (ha : ordr (rnk x) (rnk y) = a) (hb : ordr (rnk y) (rnk z) = b) (hc : ordr (rnk x) (rnk z) = c) (hd : ordr (rnk y) (rnk x) = d)
    (n m : Int) (f : Int) (hn : ulpV x y = .tuple #[.int .u64 n, .int .i64 f]) (hm : ulpV y x = .tuple #[.int .u64 m, .int .i64 f]) (w : World)
    (K : (∀ w, Calls Try.prog 28 #[.float .f64 x, .float .f64 y] w fun e w' => e = .returned (.int .i64 a) ∧ w = w') →
      (∀ w, Calls Try.prog 28 #[.float .f64 y, .float .f64 z] w fun e w' => e = .returned (.int .i64 b) ∧ w = w') →
      (∀ w, Calls Try.prog 28 #[.float .f64 x, .float .f64 z] w fun e w' => e = .returned (.int .i64 c) ∧ w = w') →
      (∀ w, Calls Try.prog 28 #[.float .f64 x, .float .f64 x] w fun e w' => e = .returned (.int .i64 0) ∧ w = w') →
      (∀ w, Calls Try.prog 28 #[.float .f64 y, .float .f64 x] w fun e w' => e = .returned (.int .i64 d) ∧ w = w') →
      (∀ w, Calls Try.prog 26 #[.float .f64 x, .float .f64 y] w fun e w' => e = .returned (.bool (a == 0)) ∧ w = w') →
      (∀ w, Calls Try.prog 24 #[.float .f64 x, .float .f64 y] w fun e w' => e = .returned (.tuple #[.int .u64 n, .int .i64 f]) ∧ w = w') →
      (∀ w, Calls Try.prog 24 #[.float .f64 y, .float .f64 x] w fun e w' => e = .returned (.tuple #[.int .u64 m, .int .i64 f]) ∧ w = w') →
      Calls Try.prog 8 #[.float .f64 x, .float .f64 y, .float .f64 z] w fun e w' => e = .returned (.bool true) ∧ w = w') :
    Calls Try.prog 8 #[.float .f64 x, .float .f64 y, .float .f64 z] w fun e w' => e = .returned (.bool true) ∧ w = w' := by
  refine K ?_ ?_ ?_ ?_ ?_ ?_ ?_ ?_
  · intro w; have := order_any x y hx hy w; rw [ha] at this; exact this
  · intro w; have := order_any y z hy hz w; rw [hb] at this; exact this
  · intro w; have := order_any x z hx hz w; rw [hc] at this; exact this
  · intro w; have := order_any x x hx hx w; rw [ordr_eq rfl] at this; exact this
  · intro w; have := order_any y x hy hx w; rw [hd] at this; exact this
  · intro w; have := same_any x y hx hy w; rw [ha] at this; exact this
  · intro w; have := ulps_any x y hx hy w; rw [hn] at this; exact this
  · intro w; have := ulps_any y x hy hx w; rw [hm] at this; exact this

set_option maxHeartbeats 4000000 in
set_option maxRecDepth 100000 in
/-- The walk, every test decided. -/
theorem orders_steps (x y z : Nat) (a b c d n m f : Int) (p1 p2 nx ny : Bool) (w : World)
    (o1 : (FloatKind.f64.format.order x y == some .lt) = p1) (o2 : (FloatKind.f64.format.order x y == some .gt) = p2)
    (o3 : (FloatKind.f64.format.order x x != some .eq) = nx) (o4 : (FloatKind.f64.format.order y y != some .eq) = ny)
    (hs : (a = 1 ∧ d = -1 ∧ p1 = false) ∨ (a = 0 ∧ d = 0 ∧ p1 = false ∧ p2 = false ∧ (b = 1 ∨ (b = 0 ∧ c = 0) ∨ (b = -1 ∧ c = -1))) ∨ (a = -1 ∧ d = 1 ∧ p2 = false ∧ (b = 1 ∨ (b = 0 ∧ c = -1) ∨ (b = -1 ∧ c = -1))))
    (hn : (nx = true ∧ n = 0 ∧ f = 5) ∨ (nx = false ∧ ny = true ∧ n = 0 ∧ f = 5) ∨ (nx = false ∧ ny = false ∧ f = 0 ∧ n = m ∧ (n == 0) = (a == 0)))
    (k1 : Hid (∀ w, Calls Try.prog 28 #[.float .f64 x, .float .f64 y] w fun e w' => e = .returned (.int .i64 a) ∧ w = w'))
    (k2 : Hid (∀ w, Calls Try.prog 28 #[.float .f64 y, .float .f64 z] w fun e w' => e = .returned (.int .i64 b) ∧ w = w'))
    (k3 : Hid (∀ w, Calls Try.prog 28 #[.float .f64 x, .float .f64 z] w fun e w' => e = .returned (.int .i64 c) ∧ w = w'))
    (k4 : Hid (∀ w, Calls Try.prog 28 #[.float .f64 x, .float .f64 x] w fun e w' => e = .returned (.int .i64 0) ∧ w = w'))
    (k5 : Hid (∀ w, Calls Try.prog 28 #[.float .f64 y, .float .f64 x] w fun e w' => e = .returned (.int .i64 d) ∧ w = w'))
    (k6 : Hid (∀ w, Calls Try.prog 26 #[.float .f64 x, .float .f64 y] w fun e w' => e = .returned (.bool (a == 0)) ∧ w = w'))
    (k7 : Hid (∀ w, Calls Try.prog 24 #[.float .f64 x, .float .f64 y] w fun e w' => e = .returned (.tuple #[.int .u64 n, .int .i64 f]) ∧ w = w'))
    (k8 : Hid (∀ w, Calls Try.prog 24 #[.float .f64 y, .float .f64 x] w fun e w' => e = .returned (.tuple #[.int .u64 m, .int .i64 f]) ∧ w = w')) :
    Calls Try.prog 8 #[.float .f64 x, .float .f64 y, .float .f64 z] w fun e w' => e = .returned (.bool true) ∧ w = w' := by
  have s1 : (a = 1 ∧ d = -1) ∨ (a = 0 ∧ d = 0 ∧ b = 1) ∨ (a = 0 ∧ d = 0 ∧ b = 0 ∧ c = 0) ∨ (a = 0 ∧ d = 0 ∧ b = -1 ∧ c = -1) ∨
    (a = -1 ∧ d = 1 ∧ b = 1) ∨ (a = -1 ∧ d = 1 ∧ b = 0 ∧ c = -1) ∨ (a = -1 ∧ d = 1 ∧ b = -1 ∧ c = -1) := by
    rcases hs with ⟨e1, e2, _⟩ | ⟨e1, e2, _, _, e3 | ⟨e3, e4⟩ | ⟨e3, e4⟩⟩ | ⟨e1, e2, _, e3 | ⟨e3, e4⟩ | ⟨e3, e4⟩⟩
    · exact .inl ⟨e1, e2⟩
    · exact .inr (.inl ⟨e1, e2, e3⟩)
    · exact .inr (.inr (.inl ⟨e1, e2, e3, e4⟩))
    · exact .inr (.inr (.inr (.inl ⟨e1, e2, e3, e4⟩)))
    · exact .inr (.inr (.inr (.inr (.inl ⟨e1, e2, e3⟩))))
    · exact .inr (.inr (.inr (.inr (.inr (.inl ⟨e1, e2, e3, e4⟩)))))
    · exact .inr (.inr (.inr (.inr (.inr (.inr ⟨e1, e2, e3, e4⟩)))))
  have s2 : (a = 1 ∧ p1 = false ∧ p2 = false) ∨ (a = 1 ∧ p1 = false ∧ p2 = true) ∨ (a = 0 ∧ p1 = false ∧ p2 = false) ∨ (a = -1 ∧ p1 = false ∧ p2 = false) ∨ (a = -1 ∧ p1 = true ∧ p2 = false) := by
    rcases hs with ⟨e1, e2, e3⟩ | ⟨e1, e2, e3, e4, _⟩ | ⟨e1, e2, e3, _⟩
    · cases p2
      · exact .inl ⟨e1, e3, rfl⟩
      · exact .inr (.inl ⟨e1, e3, rfl⟩)
    · exact .inr (.inr (.inl ⟨e1, e3, e4⟩))
    · cases p1
      · exact .inr (.inr (.inr (.inl ⟨e1, rfl, e3⟩)))
      · exact .inr (.inr (.inr (.inr ⟨e1, rfl, e3⟩)))
  clear hs
  have S1 := Lib.hid s1
  have S2 := Lib.hid s2
  have HN := Lib.hid hn
  clear s1 s2 hn
  go_enter Try.func8, Try.ntmps8
  go_wp2_with (go_at_call 17; refine (awake_any _).mono ?_; rintro e w' ⟨rfl, rfl⟩)
  refine (k1.out _).mono ?_
  rintro e w' ⟨rfl, rfl⟩
  go_wp2_with fail
  refine (k2.out _).mono ?_
  rintro e w' ⟨rfl, rfl⟩
  go_wp2_with fail
  refine (k3.out _).mono ?_
  rintro e w' ⟨rfl, rfl⟩
  go_upto_region 4 with fail
  go_cut [7, 8, 9, 68] from 14 (fun s7 s8 s9 s w' => s7 = .int .i64 a ∧ s8 = .int .i64 b ∧ s9 = .int .i64 c ∧ s = .bool false ∧ w = w')
  case first =>
    clear o1 o2 o3 o4
    rcases S1.out with ⟨h1, h2⟩ | ⟨h1, h2, h3⟩ | ⟨h1, h2, h3, h4⟩ | ⟨h1, h2, h3, h4⟩ | ⟨h1, h2, h3⟩ | ⟨h1, h2, h3, h4⟩ | ⟨h1, h2, h3, h4⟩
    all_goals
      go_wp2_with fail
      refine (k4.out _).mono ?_
      rintro e w' ⟨rfl, rfl⟩
      go_wp2_with fail
      refine (k5.out _).mono ?_
      rintro e w' ⟨rfl, rfl⟩
      go_wp2_with fail
      refine (k6.out _).mono ?_
      rintro e w' ⟨rfl, rfl⟩
      go_wp2_with fail
      go_meet
      case rel => exact ⟨by first | rfl | rw [h1], by first | rfl | rw [h3], by first | rfl | rw [h4], rfl, rfl⟩
  case rest =>
    obtain ⟨rfl, rfl, rfl, rfl, rfl⟩ := hcut
    go_upto_region 6 with fail
    go_cut [7, 84] from 14 (fun s7 s w' => s7 = .int .i64 a ∧ s = .bool false ∧ w = w')
    case first =>
      clear o3 o4
      rcases S2.out with ⟨h1, h2, h3⟩ | ⟨h1, h2, h3⟩ | ⟨h1, h2, h3⟩ | ⟨h1, h2, h3⟩ | ⟨h1, h2, h3⟩
      all_goals
        go_wp2_with fail
        go_meet
        case rel => exact ⟨by first | rfl | rw [h1], rfl, rfl⟩
    case rest =>
      obtain ⟨rfl, rfl, rfl⟩ := hcut
      clear o1 o2
      rcases HN.out with ⟨h1, h2, h3⟩ | ⟨h1, h2, h3, h4⟩ | ⟨h1, h2, h3, h4, h5⟩
      all_goals
        go_wp2_with fail
        refine (k7.out _).mono ?_
        rintro e w' ⟨rfl, rfl⟩
        go_wp2_with (go_at_call 24; refine (k8.out _).mono ?_; rintro e w' ⟨rfl, rfl⟩)
        go_ret
        first | exact ⟨rfl, rfl⟩ | exact ⟨rb (by rw [← h4, h5]; simp), rfl⟩

theorem ulpV_num {x y : Nat} (h1 : nan x = false) (h2 : nan y = false) : ulpV x y = .tuple #[.int .u64 (ulp x y : Nat), .int .i64 0] := ulpV_0 ⟨h1, h2⟩

set_option maxRecDepth 100000 in
theorem orders_walk (x y z : Nat) (hx : x < 18446744073709551616) (hy : y < 18446744073709551616) (hz : z < 18446744073709551616) (w : World) :
    Calls Try.prog 8 #[.float .f64 x, .float .f64 y, .float .f64 z] w fun e w' => e = .returned (.bool true) ∧ w = w' := by
  obtain ⟨n, m, f, hn, hm, hf⟩ : ∃ n m f : Int, ulpV x y = .tuple #[.int .u64 n, .int .i64 f] ∧ ulpV y x = .tuple #[.int .u64 m, .int .i64 f] ∧ ((nan x = true ∧ n = 0 ∧ f = 5) ∨ (nan x = false ∧ nan y = true ∧ n = 0 ∧ f = 5) ∨ (nan x = false ∧ nan y = false ∧ f = 0 ∧ n = m ∧ (n == 0) = (ordr (rnk x) (rnk y) == 0))) := by
    cases h1 : nan x
    · cases h2 : nan y
      · have u1 := ulp_eq hx hy h1 h2
        have u2 := ulp_eq hy hx h2 h1
        refine ⟨(ulp x y : Nat), (ulp y x : Nat), 0, ulpV_num h1 h2, ulpV_num h2 h1, .inr (.inr ⟨rfl, rfl, rfl, by rw [u1, u2]; split <;> split <;> omega, ?_⟩)⟩
        rw [ordr_zero, u1, Bool.eq_iff_iff]
        simp only [beq_iff_eq, decide_eq_true_eq]
        split <;> omega
      · exact ⟨0, 0, 5, ulpV_1 (.inr ⟨h1, h2⟩), ulpV_1 (.inl h2), .inr (.inl ⟨rfl, rfl, rfl, rfl⟩)⟩
    · refine ⟨0, 0, 5, ulpV_1 (.inl h1), ?_, .inl ⟨rfl, rfl, rfl⟩⟩
      cases h2 : nan y
      · exact ulpV_1 (.inr ⟨h2, h1⟩)
      · exact ulpV_1 (.inl h2)
  refine orders_walk_of x y z hx hy hz _ _ _ _ rfl rfl rfl rfl n m f hn hm w fun K1 K2 K3 K4 K5 K6 K7 K8 => ?_
  refine orders_steps x y z _ _ _ _ n m f _ _ _ _ w rfl rfl rfl rfl ?_ ?_ (Lib.hid K1) (Lib.hid K2) (Lib.hid K3) (Lib.hid K4) (Lib.hid K5) (Lib.hid K6) (Lib.hid K7) (Lib.hid K8)
  · have q : ((FloatKind.f64.format.order x y == some .lt) = true → rnk x < rnk y) ∧ ((FloatKind.f64.format.order x y == some .gt) = true → rnk y < rnk x) := by
      rcases cmp_facts hx hy with ⟨_, e1, e2⟩ | ⟨_, _, e1, e2⟩ | ⟨h1, h2, e1, e2⟩
      · rw [e1, e2]; exact ⟨fun h => (nomatch h), fun h => (nomatch h)⟩
      · rw [e1, e2]; exact ⟨fun h => (nomatch h), fun h => (nomatch h)⟩
      · rw [e1, e2, rk_rnk h1, rk_rnk h2]
        have r1 := rnk_num h1; have r2 := rnk_num h2
        simp only [decide_eq_true_eq]
        by_cases c1 : 9223372036854775808 ≤ x <;> by_cases c2 : 9223372036854775808 ≤ y <;> simp only [c1, c2, if_true, if_false] at r1 r2 ⊢ <;> omega
    obtain ⟨q1, q2⟩ := q
    rcases Int.lt_trichotomy (rnk x) (rnk y) with t1 | t1 | t1
    · refine .inr (.inr ⟨ordr_lt t1, ordr_gt t1, by rw [Bool.eq_false_iff]; intro h; have := q2 h; omega, ?_⟩)
      rcases Int.lt_trichotomy (rnk y) (rnk z) with t2 | t2 | t2
      · exact .inr (.inr ⟨ordr_lt t2, ordr_lt (by omega)⟩)
      · exact .inr (.inl ⟨ordr_eq t2, ordr_lt (by omega)⟩)
      · exact .inl (ordr_gt t2)
    · refine .inr (.inl ⟨ordr_eq t1, ordr_eq t1.symm, by rw [Bool.eq_false_iff]; intro h; have := q1 h; omega, by rw [Bool.eq_false_iff]; intro h; have := q2 h; omega, ?_⟩)
      rcases Int.lt_trichotomy (rnk y) (rnk z) with t2 | t2 | t2
      · exact .inr (.inr ⟨ordr_lt t2, ordr_lt (by omega)⟩)
      · exact .inr (.inl ⟨ordr_eq t2, ordr_eq (by omega)⟩)
      · exact .inl (ordr_gt t2)
    · exact .inl ⟨ordr_gt t1, ordr_lt t1, by rw [Bool.eq_false_iff]; intro h; have := q1 h; omega⟩
  · rw [ne_self hx, ne_self hy]; exact hf

theorem Try.own : ownKnob Try.prog.godebug = none := by kernel_rfl

set_option maxRecDepth 100000 in
theorem partOrders_lifted (os : Os) (started : os.Started) (H : Type) (enc : TypeId × Value → H) :
    ReturnsInHanded {} Try.checked os 8 .any (Rows.partOrdersSpec.pre6 enc Try.prog Try.f8 Rows.partOrdersRow.domain false) (Rows.partOrdersSpec.post enc Try.prog Try.f8 false true false false) := by
  refine returnsInHanded_of_change (C := Try.checked) Try.own started (by kernel_rfl) Try.func8
    (ChangeSpec.witness6 (enc := enc) (C := Try.checked) false ⟨#[], #[.float .f64 0, .float .f64 0, .float .f64 0], []⟩ 8 (by kernel_rfl) (by kernel_rfl) (by kernel_rfl) (by kernel_rfl)) ?_
  intro W base args ds gs before hval0 hW hcnd _
  have hval : ∀ (j : Nat) t v, Try.f8.params[j]? = some t → args[j]? = some v → Value.okWide Try.prog W .any base t v := hval0
  have hW' := hW
  obtain ⟨p, q, hA0, hV, rfl, hfz, hnd⟩ := hW
  have hA : DataW.TrodAll enc Try.prog W 0 (fun _ => true) true Try.f8.params.toList args.toList ds p := hA0
  rw [Try.params8] at hA hval
  obtain ⟨v0, v1, v2, d0, d1, d2, p0, p1, p2, rfl, rfl, rfl, h0, h1, h2⟩ := trodAll_three hA
  obtain ⟨rfl, rfl⟩ := trodVars_none hV
  obtain ⟨x0, rfl, rfl, rfl, wx0⟩ := open_float Try.underlying31 (hval 0 31 v0 rfl rfl) h0
  obtain ⟨x1, rfl, rfl, rfl, wx1⟩ := open_float Try.underlying31 (hval 1 31 v1 rfl rfl) h1
  obtain ⟨x2, rfl, rfl, rfl, wx2⟩ := open_float Try.underlying31 (hval 2 31 v2 rfl rfl) h2
  have bd0 : x0 < 18446744073709551616 := by simpa [Lit.wf] using wx0
  have bd1 : x1 < 18446744073709551616 := by simpa [Lit.wf] using wx1
  have bd2 : x2 < 18446744073709551616 := by simpa [Lit.wf] using wx2
  clear hA0 hval0
  simp only [List.append_nil] at hW'
  refine (orders_walk x0 x1 x2 bd0 bd1 bd2 W).mono fun e W' ⟨he, hw⟩ => ?_
  subst he
  subst hw
  exact ⟨_, rfl, post_of_same (pa := []) (pv := []) hW' (fun _ _ _ => trodAll_mk1 (shut_bool Try.underlying4 _)) (fun sp _ => trodAll_mk3 (shut_float Try.underlying31 wx0) (shut_float Try.underlying31 wx1) (shut_float Try.underlying31 wx2)) (fun _ _ => rfl) rfl
    (World.keptBut_refl _ _) (fun _ => rfl) (ok_one (by kernel_rfl) rfl (okWide_bool_mk Try.underlying4 _))⟩

theorem partOrders_holds : Rows.PartOrdersSaid :=
  OpenClaim.holds_of_wide 8 Try.f8 rfl rfl rfl rfl rfl rfl rfl ⟨rfl, rfl, rfl, rfl, rfl⟩ rfl rfl rfl rfl rfl (by kernel_rfl) Try.func8 (by kernel_rfl)
    (of_decide_eq_true (by kernel_rfl)) (by unfold Func.isWrapper; rw [if_neg (of_decide_eq_false (by kernel_rfl))]; exact ⟨rfl, rfl⟩)
    (fun os started H enc _ => partOrders_lifted os started H enc)
end Go.Proofs.Ytdincnjmohlgiaa
