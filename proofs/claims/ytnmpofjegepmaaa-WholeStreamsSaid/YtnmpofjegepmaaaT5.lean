/- Rows of bytes; stream.number. -/
import Derived.Test.YtnmpofjegepmaaaT4
namespace Go.Proofs.Ytnmpofjegepmaaa
open Go.RowKit Go.Proofs.Ytnmpofjegepmaaa.Fl Go.Proofs.Ytnmpofjegepmaaa.Pt

theorem Try.info5 : (Try.prog.info? 5).map (fun i => (i.zero, i.size, i.bytes)) = some (some (.int .u8 0), 1, 1) := by kernel_rfl
/-- A slice value that owns its row of bytes. -/
def OB (w : World) (B : Nat) (v : Value) (L : List Nat) : Prop := w.ownsRow B 5 1 v L.length (L.map fun b : Nat => Value.int .u8 (b : Int))
theorem OB.keep {w w' : World} {B : Nat} {v : Value} {L : List Nat} {qs : List Nat} (h : OB w B v L) (k : But qs w w') (hb : ∀ g, v.ownBlock = some g → g ∉ qs) : OB w' B v L := by
  obtain ⟨hl, h1⟩ := h
  refine ⟨hl, ?_⟩
  rcases h1 with h1 | ⟨g, cap, cur, rfl, hb', hg, r⟩
  · exact .inl h1
  · exact .inr ⟨g, cap, cur, rfl, hb', k.heap hg (hb g rfl), r⟩
theorem OB.alloc {w : World} {B : Nat} {v : Value} {L : List Nat} (h : OB w B v L) (o : Obj) : OB (w.alloc o) B v L := h.keep ((But.refl [] w).alloc o) (by simp)
theorem OB.block {w : World} {B : Nat} {v : Value} {L : List Nat} (h : OB w B v L) : ∀ g, v.ownBlock = some g → B ≤ g := fun g hg => (World.ownsRow.lt h g hg).1
theorem OB.form {w : World} {B : Nat} {v : Value} {L : List Nat} (h : OB w B v L) : (v = .slice none 0 0 ∧ L = []) ∨ ∃ g cap cur, v = .slice (some ⟨g, 0, none⟩) L.length cap ∧ B ≤ g ∧ w.heap[g]? = some (.cells cur 5 (0, 0)) ∧ L.length ≤ cap ∧ ∀ j b : Nat, L[j]? = some b → w.cell? ⟨g, j, none⟩ = some (.int .u8 (b : Int)) := by
  obtain ⟨hl, h1⟩ := h
  rcases h1 with ⟨h1, h2⟩ | ⟨g, cap, cur, rfl, hb, hg, hnc, _, hs, ht⟩
  · exact .inl ⟨h1, List.eq_nil_of_length_eq_zero h2⟩
  · refine .inr ⟨g, cap, cur, rfl, hb, hg, hnc, fun j b hj => ?_⟩
    have hjl := (List.getElem?_eq_some_iff.1 hj).1
    have h3 : (L.map fun b : Nat => Value.int .u8 (b : Int))[j]? = some (.int .u8 (b : Int)) := by rw [List.getElem?_map, hj]; rfl
    rw [← ht, List.getElem?_take, if_pos (by omega)] at h3
    rw [cell_of_row w g j _ _ _ hg]
    simpa using h3
theorem own_in {v : Value} {w : World} {g : Nat} (h : v.ownBlock = some g ∨ w.heap.size ≤ g) : g ∈ v.ownBlock.toList ∨ w.heap.size ≤ g := by
  rcases h with h | h
  · exact .inl (by rw [h]; simp)
  · exact .inr h
theorem own_next {v u v' : Value} {w : World} {m : Nat} (h : ∀ g, u.ownBlock = some g → v.ownBlock = some g ∨ w.heap.size ≤ g) (h' : v'.ownBlock = u.ownBlock ∨ v'.ownBlock = some m) (hm : w.heap.size ≤ m) : ∀ g, v'.ownBlock = some g → v.ownBlock = some g ∨ w.heap.size ≤ g := by
  intro g hg
  rcases h' with h' | h'
  · exact h g (h' ▸ hg)
  · rw [h'] at hg; cases hg; exact .inr hm
/-- append of bytes that lie in memory. -/
theorem wpList_append_ob {w : World} {ops : Array Oper} {rest : List Oper} {o : Oper} {a : Act} {Q : Exit → Act → World → Prop} (hgd : o.guard = none) (s x : Operand)
    (ho : o.op = .call { callee := .builtin .append, args := #[s, x], argTypes := #[37, 37] }) (B : Nat) (v : Value) (L : List Nat) (hs : a.eval s = v) (hown : OB w B v L)
    (ad : Addr) (m c : Nat) (N : List Nat) (hx : a.eval x = .slice (some ad) m c) (hm : N.length = m) (hN : ∀ j b : Nat, N[j]? = some b → w.cell? (ad.add j) = some (.int .u8 (b : Int))) (h63 : L.length + m ≤ 140737488355328) (hbase : B ≤ w.heap.size)
    (h : ∀ v' w', OB w' B v' (L ++ N) → w.grownBy w' v.ownBlock → (v ≠ .slice none 0 0 → v' ≠ .slice none 0 0) → (v'.ownBlock = v.ownBlock ∨ v'.ownBlock = some w.heap.size) → wpList Try.prog ops Q rest (a.put o.dst v') w') : wpList Try.prog ops Q (o :: rest) a w := by
  obtain ⟨i, hi, hz, hsz, hby⟩ := info_parts Try.info5
  refine wpList_append_own_at w hgd s x 37 ho B 5 i _ 1 1 Try.underlying37 hi hz hsz hby rfl (by omega) v L.length (L.map fun b : Nat => Value.int .u8 (b : Int)) hs hown ad m c (N.map fun b : Nat => Value.int .u8 (b : Int)) hx (by simp [hm]) ?_ ?_ (by unfold maxLen; omega) (by omega) hbase ?_
  · intro j u hu
    rw [List.getElem?_map, Option.map_eq_some_iff] at hu
    obtain ⟨b, hb, rfl⟩ := hu
    exact hN j b hb
  · intro u hu
    obtain ⟨b, _, rfl⟩ := List.mem_map.1 hu
    rfl
  · intro v' w' h1 h2 h3 h4
    refine h v' w' ?_ h2 (fun hv hv' => hv (h3.1 hv').1) h4
    unfold OB
    rw [List.length_append, hm, List.map_append]; exact h1

theorem one_byte (w : World) (e : Int) (b : Nat) (h : e = (b : Int)) : ∀ j c : Nat, [b][j]? = some c → (w.alloc (.cells #[.int .u8 e] 5)).cell? ((⟨w.heap.size, 0, none⟩ : Addr).add j) = some (.int .u8 (c : Int)) := by
  intro j c hj
  rcases j with _ | j
  · simp at hj
    subst hj
    simp [go_sem, h]
  · simp at hj
/-- The eight bytes of a number, the highest first. -/
def be8 (x : Nat) : List Nat := [x / 72057594037927936 % 256, x / 281474976710656 % 256, x / 1099511627776 % 256, x / 4294967296 % 256, x / 16777216 % 256, x / 65536 % 256, x / 256 % 256, x / 1 % 256]

set_option linter.unusedSimpArgs false in
set_option maxHeartbeats 1000000 in
set_option maxRecDepth 100000 in
theorem number_any (B : Nat) (v : Value) (L : List Nat) (x : Nat) (w : World) (hBw : B ≤ w.heap.size) (hown : OB w B v L) (hL : L.length ≤ 100000) :
    Calls Try.prog 84 #[v, .int .u64 (x : Int)] w fun e w' => ∃ v', e = .returned v' ∧ OB w' B v' (L ++ be8 x) ∧ But v.ownBlock.toList w w' ∧ (v ≠ .slice none 0 0 → v' ≠ .slice none 0 0) ∧ (∀ g, v'.ownBlock = some g → v.ownBlock = some g ∨ w.heap.size ≤ g) := by
  go_enter Try.func84, Try.ntmps84
  go_wp2_with fail
  go_loopw [0, 5] (fun vv i wr => ∃ k : Nat, k ≤ 8 ∧ i = .int .i64 (7 - (k : Int)) ∧ OB wr B vv (L ++ (be8 x).take k) ∧ But v.ownBlock.toList w wr ∧ (v ≠ .slice none 0 0 → vv ≠ .slice none 0 0) ∧ (∀ g, vv.ownBlock = some g → v.ownBlock = some g ∨ w.heap.size ≤ g)) (fun _ i _ => (intOf i + 1).toNat)
  case atStart => exact ⟨0, by omega, rfl, by simpa using hown, But.refl _ _, id, fun g hg => .inl hg⟩
  case round =>
    obtain ⟨k, hk, rfl, hob, hbr, hnn, how⟩ := hrel
    have hkc : k = 0 ∨ k = 1 ∨ k = 2 ∨ k = 3 ∨ k = 4 ∨ k = 5 ∨ k = 6 ∨ k = 7 ∨ k = 8 := by omega
    rcases hkc with rfl | rfl | rfl | rfl | rfl | rfl | rfl | rfl | rfl
    · have hb8 : IntKind.u8.wrap ((x : Int) / 72057594037927936) = ((x / 72057594037927936 % 256 : Nat) : Int) := by rw [IntKind.wrap_u8]; omega
      go_wp2_with (at_builtin; refine wpList_append_ob rfl _ _ rfl B u0 (L ++ (be8 x).take 0) rfl (hob.alloc _) ⟨wr.heap.size, 0, none⟩ 1 1 [x / 72057594037927936 % 256] rfl rfl (one_byte wr _ _ (by omega)) (by simp [be8]; omega) (by have := hbr.size; simp; omega) ?_; intro v' w' hob' hgr hnn' hown')
      go_roundw
      case rel => exact ⟨1, by omega, by first | rfl | go_num, by rw [List.append_assoc] at hob'; exact hob', (hbr.alloc _).grown hgr (fun g hg => own_in (how g hg)), fun h => hnn' (hnn h), own_next how hown' (by have := hbr.size; simp; omega)⟩
      case measure => simp [intOf]
    · have hb8 : IntKind.u8.wrap ((x : Int) / 281474976710656) = ((x / 281474976710656 % 256 : Nat) : Int) := by rw [IntKind.wrap_u8]; omega
      go_wp2_with (at_builtin; refine wpList_append_ob rfl _ _ rfl B u0 (L ++ (be8 x).take 1) rfl (hob.alloc _) ⟨wr.heap.size, 0, none⟩ 1 1 [x / 281474976710656 % 256] rfl rfl (one_byte wr _ _ (by omega)) (by simp [be8]; omega) (by have := hbr.size; simp; omega) ?_; intro v' w' hob' hgr hnn' hown')
      go_roundw
      case rel => exact ⟨2, by omega, by first | rfl | go_num, by rw [List.append_assoc] at hob'; exact hob', (hbr.alloc _).grown hgr (fun g hg => own_in (how g hg)), fun h => hnn' (hnn h), own_next how hown' (by have := hbr.size; simp; omega)⟩
      case measure => simp [intOf]
    · have hb8 : IntKind.u8.wrap ((x : Int) / 1099511627776) = ((x / 1099511627776 % 256 : Nat) : Int) := by rw [IntKind.wrap_u8]; omega
      go_wp2_with (at_builtin; refine wpList_append_ob rfl _ _ rfl B u0 (L ++ (be8 x).take 2) rfl (hob.alloc _) ⟨wr.heap.size, 0, none⟩ 1 1 [x / 1099511627776 % 256] rfl rfl (one_byte wr _ _ (by omega)) (by simp [be8]; omega) (by have := hbr.size; simp; omega) ?_; intro v' w' hob' hgr hnn' hown')
      go_roundw
      case rel => exact ⟨3, by omega, by first | rfl | go_num, by rw [List.append_assoc] at hob'; exact hob', (hbr.alloc _).grown hgr (fun g hg => own_in (how g hg)), fun h => hnn' (hnn h), own_next how hown' (by have := hbr.size; simp; omega)⟩
      case measure => simp [intOf]
    · have hb8 : IntKind.u8.wrap ((x : Int) / 4294967296) = ((x / 4294967296 % 256 : Nat) : Int) := by rw [IntKind.wrap_u8]; omega
      go_wp2_with (at_builtin; refine wpList_append_ob rfl _ _ rfl B u0 (L ++ (be8 x).take 3) rfl (hob.alloc _) ⟨wr.heap.size, 0, none⟩ 1 1 [x / 4294967296 % 256] rfl rfl (one_byte wr _ _ (by omega)) (by simp [be8]; omega) (by have := hbr.size; simp; omega) ?_; intro v' w' hob' hgr hnn' hown')
      go_roundw
      case rel => exact ⟨4, by omega, by first | rfl | go_num, by rw [List.append_assoc] at hob'; exact hob', (hbr.alloc _).grown hgr (fun g hg => own_in (how g hg)), fun h => hnn' (hnn h), own_next how hown' (by have := hbr.size; simp; omega)⟩
      case measure => simp [intOf]
    · have hb8 : IntKind.u8.wrap ((x : Int) / 16777216) = ((x / 16777216 % 256 : Nat) : Int) := by rw [IntKind.wrap_u8]; omega
      go_wp2_with (at_builtin; refine wpList_append_ob rfl _ _ rfl B u0 (L ++ (be8 x).take 4) rfl (hob.alloc _) ⟨wr.heap.size, 0, none⟩ 1 1 [x / 16777216 % 256] rfl rfl (one_byte wr _ _ (by omega)) (by simp [be8]; omega) (by have := hbr.size; simp; omega) ?_; intro v' w' hob' hgr hnn' hown')
      go_roundw
      case rel => exact ⟨5, by omega, by first | rfl | go_num, by rw [List.append_assoc] at hob'; exact hob', (hbr.alloc _).grown hgr (fun g hg => own_in (how g hg)), fun h => hnn' (hnn h), own_next how hown' (by have := hbr.size; simp; omega)⟩
      case measure => simp [intOf]
    · have hb8 : IntKind.u8.wrap ((x : Int) / 65536) = ((x / 65536 % 256 : Nat) : Int) := by rw [IntKind.wrap_u8]; omega
      go_wp2_with (at_builtin; refine wpList_append_ob rfl _ _ rfl B u0 (L ++ (be8 x).take 5) rfl (hob.alloc _) ⟨wr.heap.size, 0, none⟩ 1 1 [x / 65536 % 256] rfl rfl (one_byte wr _ _ (by omega)) (by simp [be8]; omega) (by have := hbr.size; simp; omega) ?_; intro v' w' hob' hgr hnn' hown')
      go_roundw
      case rel => exact ⟨6, by omega, by first | rfl | go_num, by rw [List.append_assoc] at hob'; exact hob', (hbr.alloc _).grown hgr (fun g hg => own_in (how g hg)), fun h => hnn' (hnn h), own_next how hown' (by have := hbr.size; simp; omega)⟩
      case measure => simp [intOf]
    · have hb8 : IntKind.u8.wrap ((x : Int) / 256) = ((x / 256 % 256 : Nat) : Int) := by rw [IntKind.wrap_u8]; omega
      go_wp2_with (at_builtin; refine wpList_append_ob rfl _ _ rfl B u0 (L ++ (be8 x).take 6) rfl (hob.alloc _) ⟨wr.heap.size, 0, none⟩ 1 1 [x / 256 % 256] rfl rfl (one_byte wr _ _ (by omega)) (by simp [be8]; omega) (by have := hbr.size; simp; omega) ?_; intro v' w' hob' hgr hnn' hown')
      go_roundw
      case rel => exact ⟨7, by omega, by first | rfl | go_num, by rw [List.append_assoc] at hob'; exact hob', (hbr.alloc _).grown hgr (fun g hg => own_in (how g hg)), fun h => hnn' (hnn h), own_next how hown' (by have := hbr.size; simp; omega)⟩
      case measure => simp [intOf]
    · have hb8 : IntKind.u8.wrap ((x : Int) / 1) = ((x / 1 % 256 : Nat) : Int) := by rw [IntKind.wrap_u8]; omega
      go_wp2_with (at_builtin; refine wpList_append_ob rfl _ _ rfl B u0 (L ++ (be8 x).take 7) rfl (hob.alloc _) ⟨wr.heap.size, 0, none⟩ 1 1 [x / 1 % 256] rfl rfl (one_byte wr _ _ (by omega)) (by simp [be8]; omega) (by have := hbr.size; simp; omega) ?_; intro v' w' hob' hgr hnn' hown')
      go_roundw
      case rel => exact ⟨8, by omega, by first | rfl | go_num, by rw [List.append_assoc] at hob'; exact hob', (hbr.alloc _).grown hgr (fun g hg => own_in (how g hg)), fun h => hnn' (hnn h), own_next how hown' (by have := hbr.size; simp; omega)⟩
      case measure => simp [intOf]
    · go_wp2_with fail
      go_ret
      exact ⟨_, rfl, hob, hbr, hnn, how⟩
end Go.Proofs.Ytnmpofjegepmaaa
