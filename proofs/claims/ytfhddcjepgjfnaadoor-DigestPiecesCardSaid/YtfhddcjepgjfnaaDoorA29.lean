/- Walks: the statements' Bend.of. -/
import Derived.Test.YtfhddcjepgjfnaaDoorA28
namespace Go.Proofs.YtfhddcjepgjfnaaDoor
open Go.RowKit Md

theorem rest66 (N : Int) : ∃ z : Nat, z < 66 ∧ wrap64 ((IntKind.u64.wrap N).tmod 66) = z := by
  have h0 : 0 ≤ IntKind.u64.wrap N := by rw [IntKind.wrap_u64]; exact Int.emod_nonneg _ (by decide)
  generalize IntKind.u64.wrap N = x at *
  refine ⟨(x % 66).toNat, by omega, ?_⟩
  rw [Int.tmod_eq_emod_of_nonneg h0, IntWalk.wrap64_in _ (by omega)]
  omega
/-- A digest in progress whose rest is not longer than m. -/
def SomeD (m : Nat) (v : Value) : Prop := ∃ (a b c d n : Int) (r : ByteArray), v = .agg #[.int .i64 a, .int .i64 b, .int .i64 c, .int .i64 d, .int .i64 n, .string r] ∧ r.size ≤ m
theorem SomeD.mk {m : Nat} (a b c d n : Int) (r : ByteArray) (h : r.size ≤ m) : SomeD m (.agg #[.int .i64 a, .int .i64 b, .int .i64 c, .int .i64 d, .int .i64 n, .string r]) := ⟨a, b, c, d, n, r, rfl, h⟩

set_option maxRecDepth 100000 in
set_option maxHeartbeats 1000000 in
theorem of_words (A B : Nat) (N a b c d n : Int) (r : ByteArray) (hr : r.size ≤ 70) (hA : A < 256) (hB : B < 256) (hA0 : A % 4 = 0) (w : World) :
    Calls Tryd.prog 21 #[.agg #[.int .u8 A, .int .u8 B, .int .i64 N], .agg #[.int .i64 a, .int .i64 b, .int .i64 c, .int .i64 d, .int .i64 n, .string r]] w fun e w' => ∃ v, e = .returned v ∧ SomeD 70 v ∧ Below w.heap.size w w' := by
  have hA1 : (((A : Int) % 4) == 0) = true := by simp; omega
  have hB4 : B % 4 = 0 ∨ B % 4 = 1 ∨ B % 4 = 2 ∨ B % 4 = 3 := by omega
  rcases hB4 with hB4 | hB4 | hB4 | hB4
  all_goals
    first | have hBI : (B : Int) % 4 = 0 := (by omega) | have hBI : (B : Int) % 4 = 1 := (by omega) | have hBI : (B : Int) % 4 = 2 := (by omega) | have hBI : (B : Int) % 4 = 3 := (by omega)
    clear hB4 hA0
    go_enter Tryd.func21, Tryd.ntmps21
    go_wp2_with fail
    exact bodyPost_ret (results_row rfl _ _ (w.heap.size + 2) 41 _ _ rfl (heap_alloc_at _ _ _ (by simp)) Tryd.underlying41 rfl 6 (by kernel_rfl) rfl) rfl ⟨_, rfl, SomeD.mk _ _ _ _ _ _ hr, (((Below.refl _ _).alloc (Nat.le_refl _) _).alloc (by simp) _).alloc (by simp; omega) _⟩
set_option maxRecDepth 100000 in
set_option maxHeartbeats 1000000 in
theorem of_length (A B : Nat) (N a b c d n : Int) (r : ByteArray) (hr : r.size ≤ 70) (hA : A < 256) (_hB : B < 256) (hA0 : A % 4 = 1) (w : World) :
    Calls Tryd.prog 21 #[.agg #[.int .u8 A, .int .u8 B, .int .i64 N], .agg #[.int .i64 a, .int .i64 b, .int .i64 c, .int .i64 d, .int .i64 n, .string r]] w fun e w' => ∃ v, e = .returned v ∧ SomeD 70 v ∧ Below w.heap.size w w' := by
  have hA1 : (((A : Int) % 4) == 0) = false := by simp; omega
  have hA2 : (((A : Int) % 4) == 1) = true := by simp; omega
  clear hA0
  go_enter Tryd.func21, Tryd.ntmps21
  go_wp2_with fail
  exact bodyPost_ret (results_row rfl _ _ (w.heap.size + 2) 41 _ _ rfl (heap_alloc_at _ _ _ (by simp)) Tryd.underlying41 rfl 6 (by kernel_rfl) rfl) rfl ⟨_, rfl, SomeD.mk _ _ _ _ _ _ hr, (((Below.refl _ _).alloc (Nat.le_refl _) _).alloc (by simp) _).alloc (by simp; omega) _⟩

set_option maxRecDepth 100000 in
set_option maxHeartbeats 1000000 in
theorem of_none (A B : Nat) (N a b c d n : Int) (r : ByteArray) (hr : r.size ≤ 70) (hA : A < 256) (_hB : B < 256) (hA0 : A % 4 = 3) (w : World) :
    Calls Tryd.prog 21 #[.agg #[.int .u8 A, .int .u8 B, .int .i64 N], .agg #[.int .i64 a, .int .i64 b, .int .i64 c, .int .i64 d, .int .i64 n, .string r]] w fun e w' => ∃ v, e = .returned v ∧ SomeD 70 v ∧ Below w.heap.size w w' := by
  have hA1 : (((A : Int) % 4) == 0) = false := by simp; omega
  have hA2 : (((A : Int) % 4) == 1) = false := by simp; omega
  have hA3 : (((A : Int) % 4) == 2) = false := by simp; omega
  clear hA0
  go_enter Tryd.func21, Tryd.ntmps21
  go_wp2_with fail
  exact bodyPost_ret (results_row rfl _ _ (w.heap.size + 2) 41 _ _ rfl (heap_alloc_at _ _ _ (by simp)) Tryd.underlying41 rfl 6 (by kernel_rfl) rfl) rfl ⟨_, rfl, SomeD.mk _ _ _ _ _ _ hr, (((Below.refl _ _).alloc (Nat.le_refl _) _).alloc (by simp) _).alloc (by simp; omega) _⟩

set_option maxRecDepth 100000 in
set_option maxHeartbeats 1000000 in
theorem of_rest (A B : Nat) (N a b c d n : Int) (r : ByteArray) (hA : A < 256) (_hB : B < 256) (hA0 : A % 4 = 2) (w : World) :
    Calls Tryd.prog 21 #[.agg #[.int .u8 A, .int .u8 B, .int .i64 N], .agg #[.int .i64 a, .int .i64 b, .int .i64 c, .int .i64 d, .int .i64 n, .string r]] w fun e w' => ∃ v, e = .returned v ∧ SomeD 70 v ∧ Below w.heap.size w w' := by
  have hA1 : (((A : Int) % 4) == 0) = false := by simp; omega
  have hA2 : (((A : Int) % 4) == 1) = false := by simp; omega
  have hA3 : (((A : Int) % 4) == 2) = true := by simp; omega
  clear hA0
  go_enter Tryd.func21, Tryd.ntmps21
  go_wp2_with fail
  obtain ⟨z, hz, he⟩ := rest66 N
  rw [he]
  refine (repeat_any ⟨#[120]⟩ z (by show z * 1 ≤ _; omega) (by omega) _).mono ?_
  rintro e w1 ⟨q, rfl, hq, hB1⟩
  have hq2 : q.size ≤ 70 := by have : q.size ≤ z * 1 := hq; omega
  have HD : Hid (w1.heap[w.heap.size + 1]? = some (.cells #[.int .i64 a, .int .i64 b, .int .i64 c, .int .i64 d, .int .i64 n, .string r] 41 (0, 0))) := Lib.hid ((hB1.block _ (by first | (simp; done) | (simp; omega))).trans ((heap_alloc_lt _ _ _ (by simp)).trans (heap_alloc_at _ _ _ (by simp))))
  have HE : Hid (w1.heap[w.heap.size + 2]? = some (.cells #[.int .i64 0, .int .i64 0, .int .i64 0, .int .i64 0, .int .i64 0, .string ⟨#[]⟩] 41 (0, 0))) := Lib.hid ((hB1.block _ (by simp)).trans (heap_alloc_at _ _ _ (by simp)))
  have HB1 : Hid (Below w.heap.size w w1) := Lib.hid (((((Below.refl _ _).alloc (Nat.le_refl _) _).alloc (by simp) _).alloc (by simp; omega) _).trans (hB1.mono (by simp; omega)))
  have d5 : w1.cell? ⟨w.heap.size + 1, 5, none⟩ = some (.string r) := cell_of_row _ _ 5 _ _ _ HD.out
  have f5 : w1.frozen? ⟨w.heap.size + 1, 5, none⟩ = false := frozen_of_row _ _ 5 _ _ HD.out
  have HD2 : Hid ((w1.setCell ⟨w.heap.size + 1, 5, none⟩ (.string q)).heap[w.heap.size + 1]? = some (.cells #[.int .i64 a, .int .i64 b, .int .i64 c, .int .i64 d, .int .i64 n, .string q] 41 (0, 0))) := Lib.hid (heap_setCell_same _ _ 5 _ 41 _ HD.out)
  have HE2 : Hid ((w1.setCell ⟨w.heap.size + 1, 5, none⟩ (.string q)).heap[w.heap.size + 2]? = some (.cells #[.int .i64 0, .int .i64 0, .int .i64 0, .int .i64 0, .int .i64 0, .string ⟨#[]⟩] 41 (0, 0))) := Lib.hid ((Below.heap_setCell _ _ _ _ (by show w.heap.size + 2 ≠ w.heap.size + 1; omega)).trans HE.out)
  have HB2 : Hid (Below w.heap.size w (w1.setCell ⟨w.heap.size + 1, 5, none⟩ (.string q))) := Lib.hid (HB1.out.setCell (by show w.heap.size ≤ w.heap.size + 1; omega) _)
  clear hB1 hq
  go_wp2_with (first | ((with_reducible refine wpList_load_whole rfl 41 _ rfl (w.heap.size + 1) ?_ 41 _ _ HD2.out Tryd.underlying41 ?_ 6 ?_ ?_ ?_); (next => rfl); (next => rfl); (next => kernel_rfl); (next => rfl)) | ((with_reducible refine wpList_store_row rfl 41 _ _ rfl (w.heap.size + 2) (#[.int .i64 a, .int .i64 b, .int .i64 c, .int .i64 d, .int .i64 n, .string q]) ?_ ?_ 41 _ HE2.out 6 ?_ ?_ ?_ ?_ ?_); (next => rfl); (next => rfl); (next => kernel_rfl); (next => rfl); (next => rfl); (next => rfl)))
  exact bodyPost_ret (results_row rfl _ _ (w.heap.size + 2) 41 _ _ rfl (setRow_heap _ _ _ _ _ _ HE2.out) Tryd.underlying41 rfl 6 (by kernel_rfl) rfl) rfl ⟨_, rfl, SomeD.mk _ _ _ _ _ _ hq2, below_setRow HB2.out (by omega) _⟩

theorem of_any (A B : Nat) (N a b c d n : Int) (r : ByteArray) (hr : r.size ≤ 70) (hA : A < 256) (hB : B < 256) (w : World) :
    Calls Tryd.prog 21 #[.agg #[.int .u8 A, .int .u8 B, .int .i64 N], .agg #[.int .i64 a, .int .i64 b, .int .i64 c, .int .i64 d, .int .i64 n, .string r]] w fun e w' => ∃ v, e = .returned v ∧ SomeD 70 v ∧ Below w.heap.size w w' := by
  have h4 : A % 4 = 0 ∨ A % 4 = 1 ∨ A % 4 = 2 ∨ A % 4 = 3 := by omega
  rcases h4 with h | h | h | h
  · exact of_words A B N a b c d n r hr hA hB h w
  · exact of_length A B N a b c d n r hr hA hB h w
  · exact of_rest A B N a b c d n r hA hB h w
  · exact of_none A B N a b c d n r hr hA hB h w
end Go.Proofs.YtfhddcjepgjfnaaDoor
