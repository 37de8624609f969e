/- Walks: the reference's digit, Right, New. -/
import Derived.Test.YtfhddcjepgjfnaaDoorA16
namespace Go.Proofs.YtfhddcjepgjfnaaDoor
open Go.RowKit Md

set_option maxHeartbeats 400000 in
theorem digitI_num (c : Nat) (h1 : 48 ≤ c) (h2 : c ≤ 57) (w : World) :
    Calls Tryd.prog 39 #[.int .u8 c] w fun e w' => e = .returned (.int .i64 (c - 48 : Nat)) ∧ w = w' := by
  go_enter Tryd.func39, Tryd.ntmps39
  go_wp2_with fail
  go_ret
  exact ⟨ret_eq (int_eq (by omega)), rfl⟩
set_option maxHeartbeats 400000 in
theorem digitI_let (c : Nat) (h1 : 97 ≤ c) (h2 : c ≤ 102) (w : World) :
    Calls Tryd.prog 39 #[.int .u8 c] w fun e w' => e = .returned (.int .i64 (c - 87 : Nat)) ∧ w = w' := by
  go_enter Tryd.func39, Tryd.ntmps39
  go_wp2_with fail
  go_ret
  exact ⟨ret_eq (int_eq (by omega)), rfl⟩
set_option maxHeartbeats 400000 in
theorem digitI_none (c : Nat) (h : ¬ (48 ≤ c ∧ c ≤ 57)) (h' : ¬ (97 ≤ c ∧ c ≤ 102)) (w : World) :
    Calls Tryd.prog 39 #[.int .u8 c] w fun e w' => e = .returned (.int .i64 (-1)) ∧ w = w' := by
  by_cases h1 : c < 48
  · clear h h'
    go_enter Tryd.func39, Tryd.ntmps39
    go_wp2_with fail
    go_ret
    exact ⟨rfl, rfl⟩
  by_cases h2 : c < 97
  · have h3 : 57 < c := by omega
    clear h h'
    go_enter Tryd.func39, Tryd.ntmps39
    go_wp2_with fail
    go_ret
    exact ⟨rfl, rfl⟩
  · have h3 : 102 < c := by omega
    clear h h'
    go_enter Tryd.func39, Tryd.ntmps39
    go_wp2_with fail
    go_ret
    exact ⟨rfl, rfl⟩

set_option maxRecDepth 100000 in
set_option maxHeartbeats 1000000 in
theorem newI_any (w : World) :
    Calls Tryd.prog 19 #[] w fun e w' => e = .returned (.agg #[.int .i64 1732584193, .int .i64 4023233417, .int .i64 2562383102, .int .i64 271733878, .int .i64 0, .string ⟨#[]⟩]) ∧ Below w.heap.size w w' := by
  go_enter Tryd.func19, Tryd.ntmps19
  go_wp2_with fail
  refine (begin_any _).mono ?_
  rintro e w1 ⟨rfl, hB1⟩
  have HB1 : Hid (Below w.heap.size w w1) := Lib.hid (((Below.refl _ w).alloc (Nat.le_refl _) _).trans (hB1.mono (by simp)))
  have HZ1 : Hid (w1.heap[w.heap.size]? = some (.cells #[.int .i64 0, .int .i64 0, .int .i64 0, .int .i64 0, .int .i64 0, .string ⟨#[]⟩] 41 (0, 0))) := Lib.hid ((hB1.block _ (by simp)).trans (heap_alloc_at _ _ _ rfl))
  clear hB1
  go_wp2_with ((with_reducible refine wpList_store_row rfl 41 _ _ rfl (w.heap.size) (#[.int .i64 1732584193, .int .i64 4023233417, .int .i64 2562383102, .int .i64 271733878, .int .i64 0, .string ⟨#[]⟩]) ?_ ?_ 41 _ HZ1.out 6 ?_ ?_ ?_ ?_ ?_); (next => rfl); (next => rfl); (next => kernel_rfl); (next => rfl); (next => rfl); (next => rfl))
  exact bodyPost_ret (v := .agg #[.int .i64 1732584193, .int .i64 4023233417, .int .i64 2562383102, .int .i64 271733878, .int .i64 0, .string ⟨#[]⟩]) (results_row rfl _ _ w.heap.size 41 _ _ rfl (setRow_heap _ _ _ _ _ _ HZ1.out) Tryd.underlying41 rfl 6 (by kernel_rfl) rfl) rfl ⟨rfl, below_setRow HB1.out (Nat.le_refl _) _⟩
end Go.Proofs.YtfhddcjepgjfnaaDoor
