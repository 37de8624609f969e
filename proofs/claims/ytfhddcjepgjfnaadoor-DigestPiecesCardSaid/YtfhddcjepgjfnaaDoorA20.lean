/- Walks: the reference's Right. -/
import Derived.Test.YtfhddcjepgjfnaaDoorA19
import Derived.Test.YtfhddcjepgjfnaaDoorA7
namespace Go.Proofs.YtfhddcjepgjfnaaDoor
open Go.RowKit Md

def wI (a b c d : Int) (k : Nat) : Int := if k = 0 then a else if k = 1 then b else if k = 2 then c else d
theorem wI_at (a b c d n : Int) (r : ByteArray) (k : Nat) (h : k < 4) : (#[Value.int .i64 a, .int .i64 b, .int .i64 c, .int .i64 d, .int .i64 n, .string r] : Array Value)[k]? = some (.int .i64 (wI a b c d k)) := by
  match k, h with
  | 0, _ => rfl
  | 1, _ => rfl
  | 2, _ => rfl
  | 3, _ => rfl
theorem vald_word (a b c d n : Int) (r : ByteArray) (k : Nat) (hk : k < 4) (h : in32 (wI a b c d k) = false) : vald a b c d n r = false := by
  have hc : k = 0 ∨ k = 1 ∨ k = 2 ∨ k = 3 := by omega
  rcases hc with rfl | rfl | rfl | rfl <;> simp [wI] at h <;> simp [vald, h]
theorem vald_rest (a b c d n : Int) (r : ByteArray) (h : ∀ k, k < 4 → in32 (wI a b c d k) = true) : vald a b c d n r = (decide (0 ≤ n) && decide (n ≤ 65536) && decide ((r.size : Int) = n % 64)) := by
  have h0 := h 0 (by omega)
  have h1 := h 1 (by omega)
  have h2 := h 2 (by omega)
  have h3 := h 3 (by omega)
  simp [wI] at h0 h1 h2 h3
  simp [vald, h0, h1, h2, h3]
theorem bool_eq {a b : Bool} (h : a = b) : Value.bool a = .bool b := by rw [h]

set_option maxRecDepth 100000 in
set_option maxHeartbeats 1000000 in
theorem right_any (a b c d n : Int) (r : ByteArray) (w : World) :
    Calls Tryd.prog 42 #[.agg #[.int .i64 a, .int .i64 b, .int .i64 c, .int .i64 d, .int .i64 n, .string r]] w fun e w' => e = .returned (.bool (vald a b c d n r)) ∧ Below w.heap.size w w' := by
  have HC := Lib.hid (heap_alloc_at w (.cells #[.int .i64 a, .int .i64 b, .int .i64 c, .int .i64 d, .int .i64 n, .string r] 41) w.heap.size rfl)
  go_enter Tryd.func42, Tryd.ntmps42
  go_wp2
  go_loop [3] (fun i => ∃ k : Nat, k ≤ 4 ∧ i = .int .i64 k ∧ ∀ j, j < k → in32 (wI a b c d j) = true) (fun i => 4 - (intOf i).toNat)
  case atStart => exact ⟨0, by omega, rfl, fun j hj => by omega⟩
  case round =>
    obtain ⟨k, hk, rfl, hall⟩ := hrel
    have HA := Lib.hid hall
    clear hall
    by_cases hlt : k < 4
    · have hc : (w.alloc (.cells #[.int .i64 a, .int .i64 b, .int .i64 c, .int .i64 d, .int .i64 n, .string r] 41)).cell? ⟨w.heap.size, k, none⟩ = some (.int .i64 (wI a b c d k)) := (cell_of_row _ _ _ _ _ _ HC.out).trans (wI_at a b c d n r k hlt)
      have hno := vald_word a b c d n r k hlt
      obtain ⟨x, hx⟩ : ∃ x, wI a b c d k = x := ⟨_, rfl⟩
      rw [hx] at hc hno
      have Hx := Lib.hid hx
      have Hno := Lib.hid hno
      clear hx hno
      by_cases h0 : x < 0
      · go_wp2
        go_ret
        exact ⟨ret_eq (bool_eq (Hno.out (by simp [in32]; omega)).symm), (Below.refl _ _).alloc (Nat.le_refl _) _⟩
      · have h0' : 0 ≤ x := by omega
        by_cases h1 : 4294967296 ≤ x
        · clear h0
          go_wp2
          go_ret
          exact ⟨ret_eq (bool_eq (Hno.out (by simp [in32]; omega)).symm), (Below.refl _ _).alloc (Nat.le_refl _) _⟩
        · have h1' : x < 4294967296 := by omega
          clear h0 h1
          go_wp2
          go_round
          case rel =>
            refine ⟨k + 1, by omega, by go_num, fun j hj => ?_⟩
            by_cases hjk : j = k
            · rw [hjk, Hx.out]; simp [in32]; omega
            · exact HA.out j (by omega)
          case measure => simp [intOf]; omega
    · obtain rfl : k = 4 := by omega
      have hv := vald_rest a b c d n r HA.out
      have Hv := Lib.hid hv
      have c4 : (w.alloc (.cells #[.int .i64 a, .int .i64 b, .int .i64 c, .int .i64 d, .int .i64 n, .string r] 41)).cell? ⟨w.heap.size, 4, none⟩ = some (.int .i64 n) := (cell_of_row _ _ _ _ _ _ HC.out).trans rfl
      have c5 : (w.alloc (.cells #[.int .i64 a, .int .i64 b, .int .i64 c, .int .i64 d, .int .i64 n, .string r] 41)).cell? ⟨w.heap.size, 5, none⟩ = some (.string r) := (cell_of_row _ _ _ _ _ _ HC.out).trans rfl
      clear hv hlt hk
      by_cases h0 : n < 0
      · go_wp2
        go_ret
        exact ⟨ret_eq (bool_eq (by rw [Hv.out]; simp; omega)), (Below.refl _ _).alloc (Nat.le_refl _) _⟩
      · have h0' : 0 ≤ n := by omega
        by_cases h1 : 65536 < n
        · clear h0
          go_wp2
          go_ret
          exact ⟨ret_eq (bool_eq (by rw [Hv.out]; simp; omega)), (Below.refl _ _).alloc (Nat.le_refl _) _⟩
        · have h1' : n ≤ 65536 := by omega
          clear h0 h1
          go_wp2
          go_ret
          exact ⟨ret_eq (bool_eq (by rw [Hv.out, Bool.eq_iff_iff]; simp; omega)), (Below.refl _ _).alloc (Nat.le_refl _) _⟩

set_option maxRecDepth 100000 in
set_option maxHeartbeats 1000000 in
theorem checkI_any (a b c d n : Int) (r : ByteArray) (w : World) :
    Calls Tryd.prog 26 #[.agg #[.int .i64 a, .int .i64 b, .int .i64 c, .int .i64 d, .int .i64 n, .string r]] w fun e w' => e = .returned (.int .i64 (if vald a b c d n r = true then 0 else 80)) ∧ Below w.heap.size w w' := by
  obtain ⟨v, hv⟩ : ∃ v, vald a b c d n r = v := ⟨_, rfl⟩
  rw [hv]
  have Hv := Lib.hid hv
  clear hv
  cases v
  all_goals
    go_enter Tryd.func26, Tryd.ntmps26
    go_wp2_with fail
    refine (right_any a b c d n r _).mono ?_
    rintro e w1 ⟨rfl, hB1⟩
    rw [Hv.out]
    have HB1 : Hid (Below w.heap.size w w1) := Lib.hid (((Below.refl _ w).alloc (Nat.le_refl _) _).trans (hB1.mono (by simp)))
    clear hB1
    go_wp2_with fail
    go_ret
    exact ⟨rfl, HB1.out⟩
end Go.Proofs.YtfhddcjepgjfnaaDoor
