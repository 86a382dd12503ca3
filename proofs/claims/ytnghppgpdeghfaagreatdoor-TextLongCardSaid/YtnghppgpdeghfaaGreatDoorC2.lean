/- Rows of bytes that a walk owns, and append. -/
import Derived.Test.YtnghppgpdeghfaaGreatDoorC1
import Derived.Lib.AppendStr
import Derived.Laws.IdiomStrings
namespace Go.Proofs.YtnghppgpdeghfaaGreatDoor
open Go.RowKit Go.Proofs.YtnghppgpdeghfaaGreatDoor.Fl Go.Proofs.YtnghppgpdeghfaaGreatDoor.Pt Go.Proofs.YtnghppgpdeghfaaGreatDoor.Tx

theorem info5 : (Tryz.prog.info? 5).map (fun i => (i.zero, i.size, i.bytes)) = some (some (.int .u8 0), 1, 1) := by kernel_rfl
/-- A slice value that owns its row of bytes. -/
def OB (w : World) (B : Nat) (v : Value) (L : List Nat) : Prop := w.ownsRow B 5 1 v L.length (L.map fun b : Nat => Value.int .u8 (b : Int))
theorem OB.keep {w w' : World} {B : Nat} {v : Value} {L : List Nat} {qs : List Nat} (h : OB w B v L) (k : But qs w w') (hb : ∀ g, v.ownBlock = some g → g ∉ qs) : OB w' B v L := by
  obtain ⟨hl, h1⟩ := h
  refine ⟨hl, ?_⟩
  rcases h1 with h1 | ⟨g, cap, cur, rfl, hb', hg, r⟩
  · exact .inl h1
  · exact .inr ⟨g, cap, cur, rfl, hb', k.heap hg (hb g rfl), r⟩
theorem OB.alloc {w : World} {B : Nat} {v : Value} {L : List Nat} (h : OB w B v L) (o : Obj) : OB (w.alloc o) B v L := h.keep ((But.refl [] w).alloc o) (by simp)
theorem OB.block {w : World} {B : Nat} {v : Value} {L : List Nat} (h : OB w B v L) : ∀ g, v.ownBlock = some g → B ≤ g := fun g hg => (World.ownsRow.lt h g hg).1
theorem OB.form {w : World} {B : Nat} {v : Value} {L : List Nat} (h : OB w B v L) : (v = .slice none 0 0 ∧ L = []) ∨ ∃ g cap cur, v = .slice (some ⟨g, 0, none⟩) L.length cap ∧ B ≤ g ∧ w.heap[g]? = some (.cells cur 5 (0, 0)) ∧ L.length ≤ cap ∧ ∀ j b : Nat, L[j]? = some b → w.cell? ⟨g, j, none⟩ = some (.int .u8 (b : Int)) := by
  obtain ⟨hl, h1⟩ := h
  rcases h1 with ⟨h1, h2⟩ | ⟨g, cap, cur, rfl, hb, hg, hnc, _, hs, ht⟩
  · exact .inl ⟨h1, List.eq_nil_of_length_eq_zero h2⟩
  · refine .inr ⟨g, cap, cur, rfl, hb, hg, hnc, fun j b hj => ?_⟩
    have hjl := (List.getElem?_eq_some_iff.1 hj).1
    have h3 : (L.map fun b : Nat => Value.int .u8 (b : Int))[j]? = some (.int .u8 (b : Int)) := by rw [List.getElem?_map, hj]; rfl
    rw [← ht, List.getElem?_take, if_pos (by omega)] at h3
    rw [cell_of_row w g j _ _ _ hg]
    simpa using h3
theorem own_in {v : Value} {w : World} {g : Nat} (h : v.ownBlock = some g ∨ w.heap.size ≤ g) : g ∈ v.ownBlock.toList ∨ w.heap.size ≤ g := by
  rcases h with h | h
  · exact .inl (by rw [h]; simp)
  · exact .inr h
theorem own_next {v u v' : Value} {w : World} {m : Nat} (h : ∀ g, u.ownBlock = some g → v.ownBlock = some g ∨ w.heap.size ≤ g) (h' : v'.ownBlock = u.ownBlock ∨ v'.ownBlock = some m) (hm : w.heap.size ≤ m) : ∀ g, v'.ownBlock = some g → v.ownBlock = some g ∨ w.heap.size ≤ g := by
  intro g hg
  rcases h' with h' | h'
  · exact h g (h' ▸ hg)
  · rw [h'] at hg; cases hg; exact .inr hm
/-- append of bytes that lie in memory. -/
theorem wpList_append_ob {w : World} {ops : Array Oper} {rest : List Oper} {o : Oper} {a : Act} {Q : Exit → Act → World → Prop} (hgd : o.guard = none) (s x : Operand)
    (ho : o.op = .call { callee := .builtin .append, args := #[s, x], argTypes := #[32, 32] }) (B : Nat) (v : Value) (L : List Nat) (hs : a.eval s = v) (hown : OB w B v L)
    (ad : Addr) (m c : Nat) (N : List Nat) (hx : a.eval x = .slice (some ad) m c) (hm : N.length = m) (hN : ∀ j b : Nat, N[j]? = some b → w.cell? (ad.add j) = some (.int .u8 (b : Int))) (h63 : L.length + m ≤ 140737488355328) (hbase : B ≤ w.heap.size)
    (h : ∀ v' w', OB w' B v' (L ++ N) → w.grownBy w' v.ownBlock → (v ≠ .slice none 0 0 → v' ≠ .slice none 0 0) → (v'.ownBlock = v.ownBlock ∨ v'.ownBlock = some w.heap.size) → wpList Tryz.prog ops Q rest (a.put o.dst v') w') : wpList Tryz.prog ops Q (o :: rest) a w := by
  obtain ⟨i, hi, hz, hsz, hby⟩ := info_parts info5
  refine wpList_append_own_at w hgd s x 32 ho B 5 i _ 1 1 Tryz.underlying32 hi hz hsz hby rfl (by omega) v L.length (L.map fun b : Nat => Value.int .u8 (b : Int)) hs hown ad m c (N.map fun b : Nat => Value.int .u8 (b : Int)) hx (by simp [hm]) ?_ ?_ (by unfold maxLen; omega) (by omega) hbase ?_
  · intro j u hu
    rw [List.getElem?_map, Option.map_eq_some_iff] at hu
    obtain ⟨b, hb, rfl⟩ := hu
    exact hN j b hb
  · intro u hu
    obtain ⟨b, _, rfl⟩ := List.mem_map.1 hu
    rfl
  · intro v' w' h1 h2 h3 h4
    refine h v' w' ?_ h2 (fun hv hv' => hv (h3.1 hv').1) h4
    unfold OB
    rw [List.length_append, hm, List.map_append]; exact h1

theorem one_byteN (w : World) (e : Int) (b : Nat) (h : e = (b : Int)) : ∀ j c : Nat, [b][j]? = some c → (w.alloc (.cells #[.int .u8 e] 5)).cell? ((⟨w.heap.size, 0, none⟩ : Addr).add j) = some (.int .u8 (c : Int)) := by
  intro j c hj
  rcases j with _ | j
  · simp at hj
    subst hj
    simp [go_sem, h]
  · simp at hj
/-- append to a row that is full, whatever its mark: a new row. -/
theorem wpList_append_grown {w : World} {ops : Array Oper} {rest : List Oper} {o : Oper} {a : Act} {Q : Exit → Act → World → Prop} (hgd : o.guard = none) (s x : Operand)
    (ho : o.op = .call { callee := .builtin .append, args := #[s, x], argTypes := #[32, 32] }) (B g cap : Nat) (L : List Nat) (hs : a.eval s = .slice (some ⟨g, 0, none⟩) L.length cap) (holds : ∀ j b : Nat, L[j]? = some b → w.cell? ⟨g, j, none⟩ = some (.int .u8 (b : Int)))
    (ad : Addr) (m c : Nat) (N : List Nat) (hx : a.eval x = .slice (some ad) m c) (hm : N.length = m) (hN : ∀ j b : Nat, N[j]? = some b → w.cell? (ad.add j) = some (.int .u8 (b : Int))) (hfull : cap < L.length + m) (h63 : L.length + m ≤ 140737488355328) (hbase : B ≤ w.heap.size)
    (h : ∀ v' w', OB w' B v' (L ++ N) → w.grownBy w' none → wpList Tryz.prog ops Q rest (a.put o.dst v') w') : wpList Tryz.prog ops Q (o :: rest) a w := by
  obtain ⟨i, hi, hz, hsz, hby⟩ := info_parts info5
  refine wpList_plain hgd fun K hK => ?_
  have holds' : ∀ j u, (L.map fun b : Nat => Value.int .u8 (b : Int))[j]? = some u → w.cell? ((⟨g, 0, none⟩ : Addr).add j) = some u := by
    intro j u hu
    rw [List.getElem?_map, Option.map_eq_some_iff] at hu
    obtain ⟨b, hb, rfl⟩ := hu
    have hadd : (⟨g, 0, none⟩ : Addr).add j = ⟨g, j, none⟩ := by unfold Addr.add; split <;> simp_all
    rw [hadd]; exact holds j b hb
  have hnews' : ∀ j u, (N.map fun b : Nat => Value.int .u8 (b : Int))[j]? = some u → w.cell? (ad.add j) = some u := by
    intro j u hu
    rw [List.getElem?_map, Option.map_eq_some_iff] at hu
    obtain ⟨b, hb, rfl⟩ := hu
    exact hN j b hb
  have hr := run_append_grow (P := Tryz.prog) w 32 o.type 5 i (.int .u8 0) Tryz.underlying32 hi hz ⟨g, 0, none⟩ L.length cap (L.map fun b : Nat => Value.int .u8 (b : Int)) (by simp [hsz]) holds' ad m c (N.map fun b : Nat => Value.int .u8 (b : Int)) (by simp [hsz, hm]) hnews' hfull (by omega) (growslice_fits (by omega) (by rw [hby]; omega))
  unfold Oper.wp execOp
  simp only [ho, resolve, invoke, builtin, Sem.run_bind, Sem.run_pure, Result.andThen_ok, List.map_toArray, List.map_cons, List.map_nil, hs, hx, hr]
  have hge := grownCap_ge w (L.length + m) cap 5
  have hcm := grownCap_le_maxLen w (L.length + m) cap 5 (by unfold maxLen; omega)
  refine hK _ _ (h _ _ ?_ ⟨rfl, rfl, rfl, by simp, fun k hk _ => Below.heap_alloc w.drew _ k hk⟩)
  unfold OB
  rw [List.length_append, hm]
  refine ⟨by simp [hm], .inr ⟨w.heap.size, _, _, rfl, hbase, heap_alloc_new w.drew _, hge, hcm, ?_, ?_⟩⟩
  · simp only [Array.size_append, List.size_toArray, size_zeroCells, List.length_map, hm]
    show L.length + m + (grownCap w (L.length + m) cap 5 - (L.length + m)) * 1 = _
    omega
  · simp only [Array.toList_append, List.append_assoc, List.map_append]
    rw [← List.append_assoc]
    have : (L.length + m) * 1 = ((L.map fun b : Nat => Value.int .u8 (b : Int)) ++ (N.map fun b : Nat => Value.int .u8 (b : Int))).length := by simp [hm]
    rw [this]
    exact List.take_left
/-- A string's bytes, as numbers. -/
def bts (s : ByteArray) : List Nat := s.data.toList.map UInt8.toNat
theorem bts_len (s : ByteArray) : (bts s).length = s.size := by simp [bts]
theorem bts_cells (s : ByteArray) : ((bts s).map fun b : Nat => Value.int .u8 (b : Int)) = Lib.strCells s := by
  unfold bts Lib.strCells
  rw [List.map_map]; rfl
/-- append of a string, in a region whose order is drawn. -/
theorem step_append_str {w : World} {ops : Array Oper} {o : Oper} {a : Act} {K : Act → World → Prop} {Q : Exit → Act → World → Prop} {E : Prop} (hgd : o.guard = none) (sl x : Operand)
    (ho : o.op = .call { callee := .builtin .append, args := #[sl, x], argTypes := #[32, 9] }) (B : Nat) (v : Value) (L : List Nat) (hs : a.eval sl = v) (hown : OB w B v L) (s : ByteArray) (hx : a.eval x = .string s)
    (h63 : L.length + s.size ≤ 140737488355328) (hbase : B ≤ w.heap.size)
    (h : ∀ v' w', OB w' B v' (L ++ bts s) → w.grownBy w' v.ownBlock → K (a.put o.dst v') w') : if Region.wanted o (yielded ops a.tmps) = true then Oper.wp Tryz.prog o a w K Q else E := by
  have hw : Region.wanted o (yielded ops a.tmps) = true := by simp [Region.wanted, hgd]
  rw [if_pos hw]
  obtain ⟨i, hi, hz, hsz, hby⟩ := info_parts info5
  obtain ⟨v', w', hr, h2, h3, _⟩ := Lib.run_append_own_string (P := Tryz.prog) w B 32 9 o.type 5 i Tryz.underlying32 Tryz.underlying9 hi hz hsz hby v L.length _ hown s (by unfold maxLen; omega) (by omega) hbase
  unfold Oper.wp execOp
  simp only [ho, resolve, invoke, builtin, Sem.run_bind, Sem.run_pure, Result.andThen_ok, List.map_toArray, List.map_cons, List.map_nil, hs, hx, hr]
  refine h v' w' ?_ h3
  unfold OB
  rw [List.length_append, bts_len, List.map_append, bts_cells]; exact h2
/-- append of bytes in memory, in a region whose order is drawn. -/
theorem step_append_ob {w : World} {ops : Array Oper} {o : Oper} {a : Act} {K : Act → World → Prop} {Q : Exit → Act → World → Prop} {E : Prop} (hgd : o.guard = none) (s x : Operand)
    (ho : o.op = .call { callee := .builtin .append, args := #[s, x], argTypes := #[32, 32] }) (B : Nat) (v : Value) (L : List Nat) (hs : a.eval s = v) (hown : OB w B v L)
    (ad : Addr) (m c : Nat) (N : List Nat) (hx : a.eval x = .slice (some ad) m c) (hm : N.length = m) (hN : ∀ j b : Nat, N[j]? = some b → w.cell? (ad.add j) = some (.int .u8 (b : Int))) (h63 : L.length + m ≤ 140737488355328) (hbase : B ≤ w.heap.size)
    (h : ∀ v' w', OB w' B v' (L ++ N) → w.grownBy w' v.ownBlock → K (a.put o.dst v') w') : if Region.wanted o (yielded ops a.tmps) = true then Oper.wp Tryz.prog o a w K Q else E := by
  have hw : Region.wanted o (yielded ops a.tmps) = true := by simp [Region.wanted, hgd]
  rw [if_pos hw]
  obtain ⟨i, hi, hz, hsz, hby⟩ := info_parts info5
  obtain ⟨v', w', hr, h2, h3, _, _⟩ := run_append_own_at (P := Tryz.prog) w B 32 o.type 5 i _ 1 1 Tryz.underlying32 hi hz hsz hby rfl (by omega) v L.length (L.map fun b : Nat => Value.int .u8 (b : Int)) hown ad m c (N.map fun b : Nat => Value.int .u8 (b : Int)) (by simp [hm]) (fun j u hu => by
    rw [List.getElem?_map, Option.map_eq_some_iff] at hu
    obtain ⟨b, hb, rfl⟩ := hu
    exact hN j b hb) (fun u hu => by
    obtain ⟨b, _, rfl⟩ := List.mem_map.1 hu
    rfl) (by unfold maxLen; omega) (by omega) hbase
  unfold Oper.wp execOp
  simp only [ho, resolve, invoke, builtin, Sem.run_bind, Sem.run_pure, Result.andThen_ok, List.map_toArray, List.map_cons, List.map_nil, hs, hx, hr]
  refine h v' w' ?_ h3
  unfold OB
  rw [List.length_append, hm, List.map_append]; exact h2
/-- The string that owned bytes make. -/
theorem ob_string {w : World} {B : Nat} {v : Value} {L : List Nat} (h : OB w B v L) (h0 : L ≠ []) (h256 : ∀ b ∈ L, b < 256) : (convert 32 9 v).run Tryz.prog w = .ok (.string ⟨(L.map UInt8.ofNat).toArray⟩) w := by
  rcases h.form with ⟨_, h⟩ | ⟨g, cap, cur, rfl, _, _, _, hcell⟩
  · exact absurd h h0
  · have := run_convert_bytes_back (P := Tryz.prog) w 32 9 5 ⟨g, 0, none⟩ cap (L.map UInt8.ofNat) Tryz.underlying32 Tryz.underlying5 Tryz.underlying9 (fun j hj => by
      have hjl : j < L.length := by simpa using hj
      have hadd : (⟨g, 0, none⟩ : Addr).add j = ⟨g, j, none⟩ := by unfold Addr.add; split <;> simp_all
      rw [hadd, hcell j L[j] (List.getElem?_eq_getElem hjl), List.getElem_map, UInt8.toNat_ofNat', Nat.mod_eq_of_lt (h256 _ (List.getElem_mem hjl))])
    rw [List.length_map] at this
    exact this
end Go.Proofs.YtnghppgpdeghfaaGreatDoor
