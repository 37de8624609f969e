/- Walks: Printed of the reference, plain. -/
import Derived.Test.YtgjfhamophknfaaDoorB3
namespace Go.Proofs.YtgjfhamophknfaaDoor
open Go.RowKit

/-- All octets are text octets. -/
def prn (l : List Nat) : Bool := l.all fun c => decide (32 ≤ c) && decide (c ≤ 126)
theorem asc_at (s : ByteArray) (k : Nat) (h : k < s.size) : (asc s.data.toList).getD k 0 = s[k].toNat := by
  unfold asc
  rw [List.getD_eq_getElem?_getD, List.getElem?_map]
  have : s.data.toList[k]? = some s[k] := by
    rw [Array.getElem?_toList]
    exact Array.getElem?_eq_getElem (by simpa using h)
  rw [this]; rfl
theorem asc_length (s : ByteArray) : (asc s.data.toList).length = s.size := by simp [asc]
theorem prn_no (l : List Nat) (k : Nat) (hk : k < l.length) (h : l.getD k 0 < 32 ∨ 126 < l.getD k 0) : prn l = false := by
  unfold prn
  rw [List.all_eq_false]
  refine ⟨l[k], List.getElem_mem hk, ?_⟩
  rw [List.getD_eq_getElem?_getD, List.getElem?_eq_getElem hk] at h
  simp at h ⊢
  omega
theorem prn_yes (l : List Nat) (h : ∀ k, k < l.length → 32 ≤ l.getD k 0 ∧ l.getD k 0 ≤ 126) : prn l = true := by
  unfold prn
  rw [List.all_eq_true]
  intro x hx
  obtain ⟨k, hk, rfl⟩ := List.getElem_of_mem hx
  have := h k hk
  rw [List.getD_eq_getElem?_getD, List.getElem?_eq_getElem hk] at this
  simp at this ⊢
  exact this
theorem bool_eq {a b : Bool} (h : a = b) : Value.bool a = .bool b := by rw [h]

set_option maxRecDepth 100000 in
set_option maxHeartbeats 1000000 in
theorem printed_any (s : ByteArray) (hs : s.size ≤ 140737488355328) (w : World) :
    Calls Tryd.prog 49 #[.string s] w fun e w' => e = .returned (.bool (prn (asc s.data.toList))) ∧ w = w' := by
  obtain ⟨l, hl⟩ : ∃ l, asc s.data.toList = l := ⟨_, rfl⟩
  have hlen : l.length = s.size := hl ▸ asc_length s
  have hat : Hid (∀ k (h : k < s.size), s[k].toNat = l.getD k 0) := Lib.hid (fun k h => by rw [← hl]; exact (asc_at s k h).symm)
  rw [hl]
  have HL := Lib.hid hlen
  clear hl hlen
  go_enter Tryd.func49, Tryd.ntmps49
  go_wp2_with fail
  go_loop [3] (fun x3 => ∃ k : Nat, k ≤ s.size ∧ x3 = .int .i64 k ∧ ∀ j, j < k → 32 ≤ l.getD j 0 ∧ l.getD j 0 ≤ 126) (fun x3 => s.size - (intOf x3).toNat)
  case atStart => exact ⟨0, by omega, rfl, fun j hj => by omega⟩
  case round =>
    obtain ⟨k, hk, rfl, hall⟩ := hrel
    have HA := Lib.hid hall
    clear hall
    by_cases hlt : k < s.size
    · have hc := hat.out k hlt
      by_cases h1 : s[k].toNat < 32
      · have Hc := Lib.hid hc
        clear hc
        go_wp2_with fail
        go_ret
        exact ⟨ret_eq (bool_eq (prn_no l k (by rw [HL.out]; exact hlt) (.inl (by rw [← Hc.out]; exact h1))).symm), rfl⟩
      · have h1' : 32 ≤ s[k].toNat := by omega
        by_cases h2 : 126 < s[k].toNat
        · have Hc := Lib.hid hc
          clear hc h1
          go_wp2_with fail
          go_ret
          exact ⟨ret_eq (bool_eq (prn_no l k (by rw [HL.out]; exact hlt) (.inr (by rw [← Hc.out]; exact h2))).symm), rfl⟩
        · have h2' : s[k].toNat ≤ 126 := by omega
          have Hc := Lib.hid hc
          clear hc h1 h2
          go_wp2_with fail
          go_round
          case rel =>
            refine ⟨k + 1, by omega, by go_num, fun j hj => ?_⟩
            by_cases hjk : j = k
            · rw [hjk, ← Hc.out]; exact ⟨h1', h2'⟩
            · exact HA.out j (by omega)
          case measure => simp [intOf]; omega
    · obtain rfl : k = s.size := by omega
      clear hlt hk
      go_wp2_with fail
      go_ret
      exact ⟨ret_eq (bool_eq (prn_yes l (fun k hk => HA.out k (by rw [← HL.out]; exact hk))).symm), rfl⟩

end Go.Proofs.YtgjfhamophknfaaDoor
