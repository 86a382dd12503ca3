/- Digits, and what they spell. -/
import Derived.Test.YtnghppgpdeghfaaGreatDoorPj
import Derived.Lib.ItoaNum
import Derived.Lib.AtoiAllCases
namespace Go.Proofs.YtnghppgpdeghfaaGreatDoor.Tx
open Go.Proofs.YtnghppgpdeghfaaGreatDoor.Fl Go.Proofs.YtnghppgpdeghfaaGreatDoor.Pt

/-- A hexadecimal digit. -/
def hc (d : Nat) : UInt8 := UInt8.ofNat (if d < 10 then 48 + d else 87 + d)
def hexD (u : Nat) : List UInt8 := if _h : u < 16 then [hc u] else hexD (u / 16) ++ [hc (u % 16)]
  termination_by u
  decreasing_by omega
def isH (c : UInt8) : Bool := (decide (48 ≤ c.toNat) && decide (c.toNat ≤ 57)) || (decide (97 ≤ c.toNat) && decide (c.toNat ≤ 102))
def isD (c : UInt8) : Bool := decide (48 ≤ c.toNat) && decide (c.toNat ≤ 57)
def hv (c : UInt8) : Nat := if 97 ≤ c.toNat then c.toNat - 87 else c.toNat - 48
def hexV (a : Nat) : List UInt8 → Nat
  | [] => a
  | c :: l => hexV (16 * a + hv c) l
def decV (a : Nat) : List UInt8 → Nat
  | [] => a
  | c :: l => decV (10 * a + (c.toNat - 48)) l
theorem hc_nat {d : Nat} (h : d < 16) : (hc d).toNat = if d < 10 then 48 + d else 87 + d := by
  unfold hc
  rw [UInt8.toNat_ofNat']
  split <;> omega
theorem isH_hc {d : Nat} (h : d < 16) : isH (hc d) = true := by
  unfold isH
  rw [hc_nat h]
  split <;> simp <;> omega
theorem hv_hc {d : Nat} (h : d < 16) : hv (hc d) = d := by
  unfold hv
  rw [hc_nat h]
  split <;> split <;> omega
theorem hv_lt {c : UInt8} (h : isH c = true) : hv c < 16 := by
  unfold isH at h
  unfold hv
  simp at h
  split <;> omega
theorem hexV_snoc (l : List UInt8) (c : UInt8) : ∀ a, hexV a (l ++ [c]) = 16 * hexV a l + hv c := by
  induction l with
  | nil => intro a; rfl
  | cons d l ih => intro a; exact ih _
theorem decV_snoc (l : List UInt8) (c : UInt8) : ∀ a, decV a (l ++ [c]) = 10 * decV a l + (c.toNat - 48) := by
  induction l with
  | nil => intro a; rfl
  | cons d l ih => intro a; exact ih _
theorem hexD_small {u : Nat} (h : u < 16) : hexD u = [hc u] := by rw [hexD, dif_pos h]
theorem hexD_big {u : Nat} (h : ¬ u < 16) : hexD u = hexD (u / 16) ++ [hc (u % 16)] := by rw [hexD, dif_neg h]
theorem hexV_hexD (u : Nat) : hexV 0 (hexD u) = u := by
  induction u using Nat.strongRecOn with
  | _ u ih =>
    by_cases h : u < 16
    · rw [hexD_small h]
      show 16 * 0 + hv (hc u) = u
      rw [hv_hc h]; omega
    · rw [hexD_big h, hexV_snoc, ih _ (by omega), hv_hc (by omega)]; omega
theorem hexD_isH (u : Nat) : ∀ c ∈ hexD u, isH c = true := by
  induction u using Nat.strongRecOn with
  | _ u ih =>
    intro c hc'
    by_cases h : u < 16
    · rw [hexD_small h] at hc'
      simp at hc'
      rw [hc']; exact isH_hc h
    · rw [hexD_big h] at hc'
      simp at hc'
      rcases hc' with h1 | h1
      · exact ih _ (by omega) c h1
      · rw [h1]; exact isH_hc (by omega)
theorem hexD_ne (u : Nat) : hexD u ≠ [] := by
  by_cases h : u < 16
  · rw [hexD_small h]; simp
  · rw [hexD_big h]; simp
theorem hexD_len : ∀ (k u : Nat), u < 16 ^ (k + 1) → (hexD u).length ≤ k + 1
  | 0, u, h => by rw [hexD_small (by simpa using h)]; simp
  | k + 1, u, h => by
    by_cases h1 : u < 16
    · rw [hexD_small h1]; simp
    · rw [hexD_big h1, List.length_append]
      have := hexD_len k (u / 16) (by rw [Nat.div_lt_iff_lt_mul (by omega)]; rw [Nat.pow_succ] at h; exact h)
      simp; omega
theorem dd_small {u : Nat} (h : u < 10) : Lib.decDigits u = [UInt8.ofNat (48 + u)] := by rw [Lib.decDigits, dif_pos h]
theorem dd_big {u : Nat} (h : ¬ u < 10) : Lib.decDigits u = Lib.decDigits (u / 10) ++ [UInt8.ofNat (48 + u % 10)] := by rw [Lib.decDigits, dif_neg h]
theorem d_nat {d : Nat} (h : d < 10) : (UInt8.ofNat (48 + d)).toNat = 48 + d := by rw [UInt8.toNat_ofNat']; omega
theorem decV_dd (u : Nat) : decV 0 (Lib.decDigits u) = u := by
  induction u using Nat.strongRecOn with
  | _ u ih =>
    by_cases h : u < 10
    · rw [dd_small h]
      show 10 * 0 + ((UInt8.ofNat (48 + u)).toNat - 48) = u
      rw [d_nat h]; omega
    · rw [dd_big h, decV_snoc, ih _ (by omega), d_nat (by omega)]; omega
theorem dd_isD (u : Nat) : ∀ c ∈ Lib.decDigits u, isD c = true := by
  induction u using Nat.strongRecOn with
  | _ u ih =>
    intro c hc'
    by_cases h : u < 10
    · rw [dd_small h] at hc'
      rw [List.mem_singleton.1 hc']; unfold isD; rw [d_nat h]; simp; omega
    · rw [dd_big h] at hc'
      rcases List.mem_append.1 hc' with h1 | h1
      · exact ih _ (by omega) c h1
      · rw [List.mem_singleton.1 h1]; unfold isD; rw [d_nat (by omega)]; simp; omega
theorem dd_ne (u : Nat) : Lib.decDigits u ≠ [] := by
  by_cases h : u < 10
  · rw [dd_small h]; simp
  · rw [dd_big h]; simp
theorem dd_len : ∀ (k u : Nat), u < 10 ^ (k + 1) → (Lib.decDigits u).length ≤ k + 1
  | 0, u, h => by rw [dd_small (by simpa using h)]; simp
  | k + 1, u, h => by
    by_cases h1 : u < 10
    · rw [dd_small h1]; simp
    · rw [dd_big h1, List.length_append]
      have := dd_len k (u / 10) (by rw [Nat.div_lt_iff_lt_mul (by omega)]; rw [Nat.pow_succ] at h; exact h)
      simp; omega

/-- strconv.ParseUint(s, 16, 64) behind its tests. -/
def pu16 (acc : Nat) : List UInt8 → Lib.NumEnd Nat
  | [] => .ok acc
  | c :: r => if isH c then (if 1152921504606846976 ≤ acc then .range else pu16 (acc * 16 + hv c) r) else .syntax
theorem hexV_ge : ∀ (l : List UInt8) (a : Nat), a ≤ hexV a l
  | [], a => Nat.le_refl _
  | c :: l, a => by
    have := hexV_ge l (16 * a + hv c)
    show a ≤ hexV (16 * a + hv c) l
    omega
theorem pu16_ok : ∀ (l : List UInt8) (a : Nat), (∀ c ∈ l, isH c = true) → hexV a l < 18446744073709551616 → pu16 a l = .ok (hexV a l)
  | [], a, _, _ => rfl
  | c :: l, a, hl, h => by
    have h1 := hexV_ge l (16 * a + hv c)
    have h2 : hexV a (c :: l) = hexV (16 * a + hv c) l := rfl
    rw [pu16, if_pos (hl c (by simp)), if_neg (by omega), show a * 16 + hv c = 16 * a + hv c by omega]
    exact pu16_ok l _ (fun d hd => hl d (by simp [hd])) (by omega)
theorem pu16_eq : ∀ (l : List UInt8) (a u : Nat), pu16 a l = .ok u → u = hexV a l
  | [], a, u, h => by simp only [pu16] at h; injection h with h; exact h.symm
  | c :: l, a, u, h => by
    rw [pu16] at h
    split at h
    · split at h
      · cases h
      · have := pu16_eq l _ u h
        rw [this, show a * 16 + hv c = 16 * a + hv c by omega]; rfl
    · cases h
theorem pu16_lt : ∀ (l : List UInt8) (a u : Nat), a < 18446744073709551616 → pu16 a l = .ok u → u < 18446744073709551616
  | [], a, u, ha, h => by simp only [pu16] at h; injection h with h; omega
  | c :: l, a, u, ha, h => by
    rw [pu16] at h
    split at h
    · rename_i hc
      split at h
      · cases h
      · have := hv_lt hc
        exact pu16_lt l _ u (by omega) h
    · cases h
theorem pu16_not : ∀ (l : List UInt8) (a : Nat), (∀ c ∈ l, isH c = true) → pu16 a l ≠ .syntax
  | [], a, _ => by simp [pu16]
  | c :: l, a, hl => by
    rw [pu16, if_pos (hl c (by simp))]
    split
    · simp
    · exact pu16_not l _ (fun d hd => hl d (by simp [hd]))

/-- A text of digits is parsed as its value. -/
theorem decV_ge : ∀ (l : List UInt8) (a : Nat), a ≤ decV a l
  | [], a => Nat.le_refl _
  | c :: l, a => by
    have := decV_ge l (10 * a + (c.toNat - 48))
    show a ≤ decV (10 * a + (c.toNat - 48)) l
    omega
theorem pu10_ok : ∀ (l : List UInt8) (a : Nat), (∀ c ∈ l, isD c = true) → decV a l < 18446744073709551616 → Lib.parseUint10 a l = .ok (decV a l)
  | [], a, _, _ => rfl
  | c :: l, a, hl, h => by
    have h1 := decV_ge l (10 * a + (c.toNat - 48))
    have h2 : decV a (c :: l) = decV (10 * a + (c.toNat - 48)) l := rfl
    have h3 := hl c (by simp)
    unfold isD at h3
    simp at h3
    rw [Lib.parseUint10, if_pos h3, if_neg (by omega), if_neg (by omega), show a * 10 + (c.toNat - 48) = 10 * a + (c.toNat - 48) by omega]
    exact pu10_ok l _ (fun d hd => hl d (by simp [hd])) (by omega)
end Go.Proofs.YtnghppgpdeghfaaGreatDoor.Tx
