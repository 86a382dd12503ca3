/- WholeStreams: plain facts for the walk. -/
import Derived.Test.YtnmpofjegepmaaaU3
namespace Go.Proofs.Ytnmpofjegepmaaa
open Go.RowKit Go.Shelf Go.Proofs.Ytnmpofjegepmaaa.Fl Go.Proofs.Ytnmpofjegepmaaa.Pt

theorem qSs_add (f c m : Bool) (n : Nat) (g : C) (Sc St xs : Nat → C) (a : Nat) : ∀ k, qSs f c m n g Sc (qSs f c m n g Sc St xs a) (fun j => xs (a + j)) k = qSs f c m n g Sc St xs (a + k)
  | 0 => rfl
  | k + 1 => by
    show qTv f c m g Sc (qSs f c m n g Sc (qSs f c m n g Sc St xs a) (fun j => xs (a + j)) k) (xs (a + k)) n = qTv f c m g Sc (qSs f c m n g Sc St xs (a + k)) (xs (a + k)) n
    rw [qSs_add f c m n g Sc St xs a k]
theorem qYs_add (f c m : Bool) (n : Nat) (g : C) (Sc St xs : Nat → C) (a k : Nat) : qYs f c m n g Sc (qSs f c m n g Sc St xs a) (fun j => xs (a + j)) k = qYs f c m n g Sc St xs (a + k) := by
  unfold qYs
  rw [qSs_add]
theorem qNs_add (f c m : Bool) (n : Nat) (g : C) (Sc St xs : Nat → C) (a : Nat) : ∀ k, qNs f c m n g Sc St xs a + qNs f c m n g Sc (qSs f c m n g Sc St xs a) (fun j => xs (a + j)) k = qNs f c m n g Sc St xs (a + k)
  | 0 => rfl
  | k + 1 => by
    show qNs f c m n g Sc St xs a + (qNs f c m n g Sc (qSs f c m n g Sc St xs a) (fun j => xs (a + j)) k + qN f c m g Sc (qSs f c m n g Sc (qSs f c m n g Sc St xs a) (fun j => xs (a + j)) k) (xs (a + k)) n) = qNs f c m n g Sc St xs (a + k) + qN f c m g Sc (qSs f c m n g Sc St xs (a + k)) (xs (a + k)) n
    rw [← qNs_add f c m n g Sc St xs a k, qSs_add]
    omega
/-- A stream that began at nothing, behind a samples. -/
abbrev S0 (W : World) (d p q n : Nat) (f c m : Bool) (g : C) (Sc xs : Nat → C) (a : Nat) : Prop := Stm W d p q n f c m a (cnt 0 (qNs f c m n g Sc (fun _ => Z0) xs a)) g Sc (qSs f c m n g Sc (fun _ => Z0) xs a)
theorem stk_next {W : World} {d p q n : Nat} {f c m : Bool} {g : C} {Sc xs : Nat → C} {a k : Nat} (h : Stk W d p q n f c m a (cnt 0 (qNs f c m n g Sc (fun _ => Z0) xs a)) g Sc (qSs f c m n g Sc (fun _ => Z0) xs a) (fun j => xs (a + j)) k) (hk : a + k < 18446744073709551616) : S0 W d p q n f c m g Sc xs (a + k) := by
  unfold Stk at h
  rw [cnt_add, qNs_add, qSs_add] at h
  have e : cnt a k = a + k := by unfold cnt; exact Nat.mod_eq_of_lt hk
  rw [e] at h
  exact h

theorem wf_cc {a : C} (h : wf a) : wf (ccn a) := by
  have hq : ∀ b, b < 18446744073709551616 → cn b < 18446744073709551616 := fun b hb => by
    cases hn : nan b
    · rw [cn_num hn]; exact hb
    · rw [cn_nan hn]; decide
  exact ⟨hq _ h.1, hq _ h.2⟩
theorem rc_canon {w : World} {b o m : Nat} {xs : Nat → C} (h : RC w b o m xs) : ∀ j, j < m → wf (xs j) ∧ ccn (xs j) = xs j := fun j hj => by
  obtain ⟨a, _, h1, h2⟩ := h j hj
  rw [← h2]
  exact ⟨wf_cc h1, by unfold ccn; rw [cn_cn, cn_cn]⟩

/-- What lies at b: bytes. -/
def Byt (w : World) (b : Nat) (L : List Nat) : Prop := ∀ j x : Nat, L[j]? = some x → w.cell? ⟨b, j, none⟩ = some (.int .u8 (x : Int))
theorem Byt.keep {w w' : World} {b : Nat} {L : List Nat} {qs : List Nat} (h : Byt w b L) (k : But qs w w') (hb : b ∉ qs) : Byt w' b L := fun j x hj => k.cell (h j x hj) (by simpa using hb)
def strOf (L : List Nat) : ByteArray := ⟨(L.map fun x => UInt8.ofNat x).toArray⟩
theorem byt_conv {w : World} {b n cap : Nat} {L : List Nat} (h : Byt w b L) (hl : L.length = n) (hL : ∀ x ∈ L, x < 256) : (convert 37 9 (.slice (some ⟨b, 0, none⟩) n cap)).run Try.prog w = .ok (.string (strOf L)) w := by
  have hr := run_convert_bytes_back (P := Try.prog) w 37 9 5 ⟨b, 0, none⟩ cap (L.map fun x => UInt8.ofNat x) Try.underlying37 Try.underlying5 Try.underlying9 (fun j hj => by
    have hj' : j < L.length := by simpa using hj
    rw [Addr.add_lit, List.getElem_map]
    have h1 := h j L[j] (List.getElem?_eq_getElem hj')
    have h2 := hL L[j] (List.getElem_mem hj')
    rw [Nat.zero_add, h1]
    congr 2
    have : (UInt8.ofNat L[j]).toNat = L[j] := by rw [UInt8.toNat_ofNat']; exact Nat.mod_eq_of_lt (by simpa using h2)
    rw [this])
  rw [List.length_map, hl] at hr
  exact hr
theorem be8_lt {x y : Nat} (h : y ∈ be8 x) : y < 256 := by
  simp only [be8, List.mem_cons, List.not_mem_nil, or_false] at h
  omega
theorem pbs_lt {xs : Nat → C} {m y : Nat} (h : y ∈ pbs xs m) : y < 256 := by
  induction m with
  | zero => simp [pbs] at h
  | succ m ih =>
    rw [pbs, List.mem_append, List.mem_append] at h
    rcases h with h | h | h
    · exact ih h
    · exact be8_lt h
    · exact be8_lt h
theorem secb_lt {Sc : Nat → C} {m y : Nat} (h : y ∈ secb Sc m) : y < 256 := by
  induction m with
  | zero => simp [secb] at h
  | succ m ih =>
    rw [secb, List.mem_append] at h
    rcases h with h | h
    · exact ih h
    · exact pbs_lt h
theorem stab_lt {St : Nat → C} {m y : Nat} (h : y ∈ stab St m) : y < 256 := by
  induction m with
  | zero => simp [stab] at h
  | succ m ih =>
    rw [stab, List.mem_append] at h
    rcases h with h | h
    · exact ih h
    · exact pbs_lt h
theorem svd_lt {f c m : Bool} {n at_ ch : Nat} {g : C} {Sc St : Nat → C} (hn : n ≤ 16) : ∀ x ∈ svd f c m n at_ ch g Sc St, x < 256 := by
  intro x h
  have hf := flg_lt f c m 3
  unfold svd hdr at h
  simp only [List.mem_append] at h
  rcases h with ((((h | h) | h) | h) | h) | h
  · simp at h; omega
  · exact pbs_lt h
  · exact secb_lt h
  · exact be8_lt h
  · exact be8_lt h
  · exact stab_lt h

/-- The calls that were put off by ranges over functions. -/
def marks (Ds : List Nat) : List Deferred := Ds.map fun D => { target := .collected D, args := #[] }
theorem leave_marks {F : Fence} {n : Nat} {fn : Func} {tmps : Array Value} {R : Ending → World → Prop} : ∀ (Ds : List Nat) (W : World), Ds.Nodup → (∀ D ∈ Ds, W.heap[D]? = some (.deferred (some []))) →
    (∀ W', But Ds W W' → LeavesIn F n Try.prog fn tmps R [] .returning W') → LeavesInM F n Try.prog fn tmps R (marks Ds) .returning W
  | [], W, _, _, h => h W (But.refl _ _)
  | D :: Ds, W, hnd, hD, h => by
    rw [List.nodup_cons] at hnd
    have hb := But.put [D] W D (.deferred none) (by simp)
    refine ⟨by simp, .inl ⟨D, _, rfl, run_takeDeferred (hD D (by simp)), ?_⟩⟩
    refine leave_marks Ds _ hnd.2 (fun E hE => hb.heap (hD E (by simp [hE])) (fun e => hnd.1 (by simp at e; subst e; exact hE))) (fun W' hb' => h W' ?_)
    exact (hb.weak (by intro i _ hi; simp at hi; simp [hi])).trans (hb'.weak (by intro i _ hi; simp [hi]))
end Go.Proofs.Ytnmpofjegepmaaa
