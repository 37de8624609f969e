/- Plain laws: Unhex inverts Hex; what is read is the text of what it is read as. -/
import Derived.Test.YtfhddcjepgjfnaaDoorA12
namespace Go.Proofs.YtfhddcjepgjfnaaDoor
open Go.RowKit Md

theorem nib_dig (n : Nat) (h : n < 16) : nib (dig n) = n := by
  have : ∀ n : Fin 16, nib (dig n.val) = n.val := by decide
  exact this ⟨n, h⟩
theorem dig_nib (c : Nat) (h : nib c < 16) : dig (nib c) = c := by
  unfold nib at *
  unfold dig
  split at h
  · rename_i h1
    rw [if_pos h1, if_pos (by omega)]; omega
  · split at h
    · rename_i h1 h2
      rw [if_neg h1, if_pos h2, if_neg (by omega)]; omega
    · omega
theorem hex_length : ∀ l : List Nat, (hex l).length = 2 * l.length
  | [] => rfl
  | o :: l => by
    show (dig (o / 16) :: dig (o % 16) :: hex l).length = _
    simp [hex_length l]; omega
theorem hex_even : ∀ (l : List Nat) (j : Nat), j < l.length → (hex l).getD (2 * j) 0 = dig (l.getD j 0 / 16)
  | [], _, h => by simp at h
  | o :: l, 0, _ => rfl
  | o :: l, j+1, h => by
    show (dig (o / 16) :: dig (o % 16) :: hex l).getD (2 * (j + 1)) 0 = dig ((o :: l).getD (j + 1) 0 / 16)
    rw [show 2 * (j + 1) = 2 * j + 1 + 1 by omega, List.getD_cons_succ, List.getD_cons_succ, List.getD_cons_succ]
    exact hex_even l j (by simpa using h)
theorem hex_odd : ∀ (l : List Nat) (j : Nat), j < l.length → (hex l).getD (2 * j + 1) 0 = dig (l.getD j 0 % 16)
  | [], _, h => by simp at h
  | o :: l, 0, _ => rfl
  | o :: l, j+1, h => by
    show (dig (o / 16) :: dig (o % 16) :: hex l).getD (2 * (j + 1) + 1) 0 = dig ((o :: l).getD (j + 1) 0 % 16)
    rw [show 2 * (j + 1) + 1 = 2 * j + 1 + 1 + 1 by omega, List.getD_cons_succ, List.getD_cons_succ, List.getD_cons_succ]
    exact hex_odd l j (by simpa using h)
theorem ext_getD {l m : List Nat} (n : Nat) (hl : l.length = n) (hm : m.length = n) (h : ∀ i, i < n → l.getD i 0 = m.getD i 0) : l = m := by
  apply List.ext_getElem?
  intro i
  by_cases hi : i < n
  · have := h i hi
    rw [List.getD_eq_getElem?_getD, List.getD_eq_getElem?_getD, List.getElem?_eq_getElem (by omega), List.getElem?_eq_getElem (by omega)] at this
    rw [List.getElem?_eq_getElem (by omega), List.getElem?_eq_getElem (by omega)]
    exact congrArg some this
  · rw [List.getElem?_eq_none (by omega), List.getElem?_eq_none (by omega)]
theorem unhexL_get (a : List Nat) (j : Nat) (h : j < 16) : (unhexL a).getD j 0 = 16 * nb a (2 * j) + nb a (2 * j + 1) := by
  simp [unhexL, h]
theorem hex_lt (l : List Nat) (h : ∀ i, l.getD i 0 < 256) : ∀ i, (hex l).getD i 0 < 256 := by
  intro i
  by_cases hi : i < (hex l).length
  · rw [hex_length] at hi
    obtain ⟨j, rfl | rfl⟩ : ∃ j, i = 2 * j ∨ i = 2 * j + 1 := ⟨i / 2, by omega⟩
    · rw [hex_even l j (by omega)]; exact dig_lt _ (by have := h j; omega)
    · rw [hex_odd l j (by omega)]; exact dig_lt _ (by omega)
  · rw [List.getD_eq_getElem?_getD, List.getElem?_eq_none (by omega)]; decide
theorem asc_hexOf (l : List Nat) (h : ∀ i, l.getD i 0 < 256) : asc (ByteArray.mk (hexOf l).toArray).data.toList = hex l := by
  show ((hex l).map UInt8.ofNat).map (·.toNat) = hex l
  rw [List.map_map]
  refine (List.map_congr_left fun x hx => ?_).trans (List.map_id _)
  obtain ⟨i, hi, rfl⟩ := List.getElem_of_mem hx
  have := hex_lt l h i
  rw [List.getD_eq_getElem?_getD, List.getElem?_eq_getElem hi] at this
  simp only [Function.comp, id, UInt8.toNat_ofNat']
  exact Nat.mod_eq_of_lt this
/-- Unhex of Hex. -/
theorem unhex_hex (l : List Nat) (hl : l.length = 16) (h : ∀ i, l.getD i 0 < 256) : unhexRes (asc (ByteArray.mk (hexOf l).toArray).data.toList) = .tuple #[.agg (ob l), .int .i64 0] := by
  rw [asc_hexOf l h]
  have hlen : (hex l).length = 32 := by rw [hex_length, hl]
  have hne : ∀ j, j < 16 → nb (hex l) (2 * j) = l.getD j 0 / 16 ∧ nb (hex l) (2 * j + 1) = l.getD j 0 % 16 := fun j hj => by
    have := h j
    unfold nb
    rw [hex_even l j (by omega), hex_odd l j (by omega), nib_dig _ (by omega), nib_dig _ (by omega)]
    exact ⟨rfl, rfl⟩
  have hd : digs (hex l) 32 := by
    intro i hi
    have := h (i / 2)
    obtain ⟨j, hj⟩ : ∃ j, i = 2 * j ∨ i = 2 * j + 1 := ⟨i / 2, by omega⟩
    have h2 := hne j (by omega)
    have h3 := h j
    unfold nb at h2
    rcases hj with rfl | rfl
    · rw [h2.1]; omega
    · rw [h2.2]; omega
  have hu : unhexL (hex l) = l := by
    refine ext_getD 16 (unhexL_length _) hl fun j hj => ?_
    rw [unhexL_get _ j hj, (hne j hj).1, (hne j hj).2]
    omega
  rw [unhexRes, if_pos ⟨hlen, hd⟩, hu]
/-- Hex of what Unhex reads. -/
theorem hex_unhex (s : ByteArray) (hl : (asc s.data.toList).length = 32) (hd : digs (asc s.data.toList) 32) : ByteArray.mk (hexOf (unhexL (asc s.data.toList))).toArray = s := by
  have hx : hex (unhexL (asc s.data.toList)) = asc s.data.toList := by
    refine ext_getD 32 (by rw [hex_length, unhexL_length]) hl fun i hi => ?_
    have hi1 := hd i hi
    obtain ⟨j, hj⟩ : ∃ j, i = 2 * j ∨ i = 2 * j + 1 := ⟨i / 2, by omega⟩
    have a1 := hd (2 * j) (by omega)
    have a2 := hd (2 * j + 1) (by omega)
    rcases hj with rfl | rfl
    · rw [hex_even _ j (by rw [unhexL_length]; omega), unhexL_get _ j (by omega)]
      unfold nb
      rw [show (16 * nib ((asc s.data.toList).getD (2 * j) 0) + nib ((asc s.data.toList).getD (2 * j + 1) 0)) / 16 = nib ((asc s.data.toList).getD (2 * j) 0) by omega]
      exact dig_nib _ a1
    · rw [hex_odd _ j (by rw [unhexL_length]; omega), unhexL_get _ j (by omega)]
      unfold nb
      rw [show (16 * nib ((asc s.data.toList).getD (2 * j) 0) + nib ((asc s.data.toList).getD (2 * j + 1) 0)) % 16 = nib ((asc s.data.toList).getD (2 * j + 1) 0) by omega]
      exact dig_nib _ a2
  have : hexOf (unhexL (asc s.data.toList)) = s.data.toList := by
    show (hex _).map UInt8.ofNat = _
    rw [hx]
    show (s.data.toList.map (·.toNat)).map UInt8.ofNat = _
    rw [List.map_map]
    exact (List.map_congr_left fun x _ => by simp).trans (List.map_id _)
  rw [this]
theorem unhexL_lt (a : List Nat) (hd : digs a 32) (i : Nat) : (unhexL a).getD i 0 < 256 := by
  by_cases h : i < 16
  · have a1 := hd (2 * i) (by omega)
    have a2 := hd (2 * i + 1) (by omega)
    rw [unhexL_get a i h]; unfold nb; omega
  · rw [List.getD_eq_getElem?_getD, List.getElem?_eq_none (by rw [unhexL_length]; omega)]; decide
end Go.Proofs.YtfhddcjepgjfnaaDoor
