/- Walks: read. -/
import Derived.Test.YtfhddcjepgjfnaaDoorA6
import Derived.Test.YtfhddcjepgjfnaaDoorEq
namespace Go.Proofs.YtfhddcjepgjfnaaDoor
open Go.RowKit Md

/-- What the loop of 'read' has written after k rounds. -/
def RW (a b c d : Int) (k : Int) : Array Value := #[.int .u32 (if 0 < k then a % 4294967296 else 0), .int .u32 (if 1 < k then b % 4294967296 else 0), .int .u32 (if 2 < k then c % 4294967296 else 0), .int .u32 (if 3 < k then d % 4294967296 else 0)]
def RA (a b c d : Int) (k : Int) : Array Value := #[.int .i64 (if 0 < k then a % 4294967296 else 0), .int .i64 (if 1 < k then b % 4294967296 else 0), .int .i64 (if 2 < k then c % 4294967296 else 0), .int .i64 (if 3 < k then d % 4294967296 else 0)]
/-- A number of a digest's. -/
def in32 (a : Int) : Bool := decide (0 ≤ a) && decide (a < 4294967296)
/-- Is a digest in progress valid? -/
def vald (a b c d n : Int) (r : ByteArray) : Bool := in32 a && in32 b && in32 c && in32 d && decide (0 ≤ n) && decide (n ≤ 65536) && decide ((r.size : Int) = n % 64)
def zd : Array Value := #[.int .u32 0, .int .u32 0, .int .u32 0, .int .u32 0, .int .i64 0, .string ⟨#[]⟩]
def readRes (a b c d n : Int) (r : ByteArray) : Value :=
  if vald a b c d n r then .tuple #[.agg #[.int .u32 a, .int .u32 b, .int .u32 c, .int .u32 d, .int .i64 n, .string r], .bool true] else .tuple #[.agg zd, .bool false]

theorem in4_iff (a b c d : Int) : (in32 a = true ∧ in32 b = true ∧ in32 c = true ∧ in32 d = true) ↔ ([a % 4294967296, b % 4294967296, c % 4294967296, d % 4294967296] == [a, b, c, d]) = true := by
  simp [in32]; omega
theorem in4_mod (a b c d : Int) (h : in32 a = true ∧ in32 b = true ∧ in32 c = true ∧ in32 d = true) : a % 4294967296 = a ∧ b % 4294967296 = b ∧ c % 4294967296 = c ∧ d % 4294967296 = d := by
  simp [in32] at h; omega
theorem eq39 (a b c d : Int) (w : World) : (Op.equalIn 10000 39 (.agg #[.int .i64 (a % 4294967296), .int .i64 (b % 4294967296), .int .i64 (c % 4294967296), .int .i64 (d % 4294967296)]) (.agg #[.int .i64 a, .int .i64 b, .int .i64 c, .int .i64 d])).run Tryd.prog w = .ok ([a % 4294967296, b % 4294967296, c % 4294967296, d % 4294967296] == [a, b, c, d]) w :=
  run_equalIn_array (P := Tryd.prog) (n := 4) (k := .i64) Tryd.underlying39 Tryd.underlying3 Tryd.isAgg3 Tryd.sizeOf3 9998 [a % 4294967296, b % 4294967296, c % 4294967296, d % 4294967296] [a, b, c, d] rfl rfl w

set_option maxRecDepth 100000 in
set_option maxHeartbeats 1000000 in
theorem read_any (a b c d n : Int) (r : ByteArray) (w : World) :
    Calls Tryd.prog 44 #[.agg #[.int .i64 a, .int .i64 b, .int .i64 c, .int .i64 d, .int .i64 n, .string r]] w fun e w' => e = .returned (readRes a b c d n r) ∧ Below w.heap.size w w' := by
  go_enter Tryd.func44, Tryd.ntmps44
  go_wp2
  go_loopw [6, 7, 10] (fun _ _ x10 wr => ∃ k : Int, 0 ≤ k ∧ k ≤ 4 ∧ x10 = .int .i64 k ∧ Below w.heap.size w wr ∧ wr.heap[w.heap.size]? = some (.cells #[.int .i64 a, .int .i64 b, .int .i64 c, .int .i64 d, .int .i64 n, .string r] 41) ∧ wr.heap[w.heap.size + 1]? = some (.cells #[.int .u32 0, .int .u32 0, .int .u32 0, .int .u32 0, .int .i64 0, .string ⟨#[]⟩] 61) ∧ wr.heap[w.heap.size + 2]? = some (.cells (RW a b c d k) 59) ∧ wr.heap[w.heap.size + 3]? = some (.cells (RA a b c d k) 39)) (fun _ _ i _ => 4 - (intOf i).toNat)
  case atStart =>
    refine ⟨0, by omega, by omega, rfl, ((((Below.refl _ _).alloc (Nat.le_refl _) _).alloc (by simp only [World.size_alloc]; omega) _).alloc (by simp only [World.size_alloc]; omega) _).alloc (by simp only [World.size_alloc]; omega) _, ?_, ?_, ?_, heap_alloc_at _ _ _ (by simp)⟩
    · rw [heap_alloc_lt _ _ _ (by simp only [World.size_alloc]; omega), heap_alloc_lt _ _ _ (by simp only [World.size_alloc]; omega), heap_alloc_lt _ _ _ (by simp)]; exact heap_alloc_at _ _ _ (by simp)
    · rw [heap_alloc_lt _ _ _ (by simp only [World.size_alloc]; omega), heap_alloc_lt _ _ _ (by simp)]; exact heap_alloc_at _ _ _ (by simp)
    · rw [heap_alloc_lt _ _ _ (by simp)]; exact heap_alloc_at _ _ _ (by simp)
  case round =>
    obtain ⟨k, hk0, hk, rfl, hB, hD, hE, hW, hA⟩ := hrel
    have HD := Lib.hid hD
    have HE := Lib.hid hE
    have HW := Lib.hid hW
    have HA := Lib.hid hA
    clear hE hD hW hA
    by_cases hlt : k < 4
    · obtain rfl | rfl | rfl | rfl : k = 0 ∨ k = 1 ∨ k = 2 ∨ k = 3 := by omega
      · have i0 := idxD0
        have c0 : wr.cell? ⟨w.heap.size + 1 + 1, 0, none⟩ = some (.int .u32 0) := cell_of_row _ (w.heap.size + 2) 0 _ _ _ HW.out
        have f0 : wr.frozen? ⟨w.heap.size + 1 + 1, 0, none⟩ = false := frozen_of_row _ (w.heap.size + 2) 0 _ _ HW.out
        have c1 : wr.cell? ⟨w.heap.size + 1 + 1 + 1, 0, none⟩ = some (.int .i64 0) := cell_of_row _ (w.heap.size + 3) 0 _ _ _ HA.out
        have f1 : wr.frozen? ⟨w.heap.size + 1 + 1 + 1, 0, none⟩ = false := frozen_of_row _ (w.heap.size + 3) 0 _ _ HA.out
        clear hlt hk hk0
        go_wp2
        go_roundw
        case rel => exact ⟨1, by omega, by omega, rfl, (hB.setCell (by show _ ≤ w.heap.size + 1 + 1; omega) _).setCell (by show _ ≤ w.heap.size + 1 + 1 + 1; omega) _, ((Below.heap_setCell _ _ _ _ (by show w.heap.size ≠ w.heap.size + 1 + 1 + 1; omega)).trans (Below.heap_setCell _ _ _ _ (by show w.heap.size ≠ w.heap.size + 1 + 1; omega))).trans HD.out, ((Below.heap_setCell _ _ _ _ (by show w.heap.size + 1 ≠ w.heap.size + 1 + 1 + 1; omega)).trans (Below.heap_setCell _ _ _ _ (by show w.heap.size + 1 ≠ w.heap.size + 1 + 1; omega))).trans HE.out, (Below.heap_setCell _ _ _ _ (by show w.heap.size + 2 ≠ w.heap.size + 1 + 1 + 1; omega)).trans (heap_setCell_same _ (w.heap.size + 2) 0 _ 59 _ HW.out), heap_setCell_same _ (w.heap.size + 3) 0 _ 39 _ ((Below.heap_setCell _ _ _ _ (by show w.heap.size + 3 ≠ w.heap.size + 1 + 1; omega)).trans HA.out)⟩
        case measure => simp [intOf]
      · have i0 := idxD1
        have c0 : wr.cell? ⟨w.heap.size + 1 + 1, 1, none⟩ = some (.int .u32 0) := cell_of_row _ (w.heap.size + 2) 1 _ _ _ HW.out
        have f0 : wr.frozen? ⟨w.heap.size + 1 + 1, 1, none⟩ = false := frozen_of_row _ (w.heap.size + 2) 1 _ _ HW.out
        have c1 : wr.cell? ⟨w.heap.size + 1 + 1 + 1, 1, none⟩ = some (.int .i64 0) := cell_of_row _ (w.heap.size + 3) 1 _ _ _ HA.out
        have f1 : wr.frozen? ⟨w.heap.size + 1 + 1 + 1, 1, none⟩ = false := frozen_of_row _ (w.heap.size + 3) 1 _ _ HA.out
        clear hlt hk hk0
        go_wp2
        go_roundw
        case rel => exact ⟨2, by omega, by omega, rfl, (hB.setCell (by show _ ≤ w.heap.size + 1 + 1; omega) _).setCell (by show _ ≤ w.heap.size + 1 + 1 + 1; omega) _, ((Below.heap_setCell _ _ _ _ (by show w.heap.size ≠ w.heap.size + 1 + 1 + 1; omega)).trans (Below.heap_setCell _ _ _ _ (by show w.heap.size ≠ w.heap.size + 1 + 1; omega))).trans HD.out, ((Below.heap_setCell _ _ _ _ (by show w.heap.size + 1 ≠ w.heap.size + 1 + 1 + 1; omega)).trans (Below.heap_setCell _ _ _ _ (by show w.heap.size + 1 ≠ w.heap.size + 1 + 1; omega))).trans HE.out, (Below.heap_setCell _ _ _ _ (by show w.heap.size + 2 ≠ w.heap.size + 1 + 1 + 1; omega)).trans (heap_setCell_same _ (w.heap.size + 2) 1 _ 59 _ HW.out), heap_setCell_same _ (w.heap.size + 3) 1 _ 39 _ ((Below.heap_setCell _ _ _ _ (by show w.heap.size + 3 ≠ w.heap.size + 1 + 1; omega)).trans HA.out)⟩
        case measure => simp [intOf]
      · have i0 := idxD2
        have c0 : wr.cell? ⟨w.heap.size + 1 + 1, 2, none⟩ = some (.int .u32 0) := cell_of_row _ (w.heap.size + 2) 2 _ _ _ HW.out
        have f0 : wr.frozen? ⟨w.heap.size + 1 + 1, 2, none⟩ = false := frozen_of_row _ (w.heap.size + 2) 2 _ _ HW.out
        have c1 : wr.cell? ⟨w.heap.size + 1 + 1 + 1, 2, none⟩ = some (.int .i64 0) := cell_of_row _ (w.heap.size + 3) 2 _ _ _ HA.out
        have f1 : wr.frozen? ⟨w.heap.size + 1 + 1 + 1, 2, none⟩ = false := frozen_of_row _ (w.heap.size + 3) 2 _ _ HA.out
        clear hlt hk hk0
        go_wp2
        go_roundw
        case rel => exact ⟨3, by omega, by omega, rfl, (hB.setCell (by show _ ≤ w.heap.size + 1 + 1; omega) _).setCell (by show _ ≤ w.heap.size + 1 + 1 + 1; omega) _, ((Below.heap_setCell _ _ _ _ (by show w.heap.size ≠ w.heap.size + 1 + 1 + 1; omega)).trans (Below.heap_setCell _ _ _ _ (by show w.heap.size ≠ w.heap.size + 1 + 1; omega))).trans HD.out, ((Below.heap_setCell _ _ _ _ (by show w.heap.size + 1 ≠ w.heap.size + 1 + 1 + 1; omega)).trans (Below.heap_setCell _ _ _ _ (by show w.heap.size + 1 ≠ w.heap.size + 1 + 1; omega))).trans HE.out, (Below.heap_setCell _ _ _ _ (by show w.heap.size + 2 ≠ w.heap.size + 1 + 1 + 1; omega)).trans (heap_setCell_same _ (w.heap.size + 2) 2 _ 59 _ HW.out), heap_setCell_same _ (w.heap.size + 3) 2 _ 39 _ ((Below.heap_setCell _ _ _ _ (by show w.heap.size + 3 ≠ w.heap.size + 1 + 1; omega)).trans HA.out)⟩
        case measure => simp [intOf]
      · have i0 := idxD3
        have c0 : wr.cell? ⟨w.heap.size + 1 + 1, 3, none⟩ = some (.int .u32 0) := cell_of_row _ (w.heap.size + 2) 3 _ _ _ HW.out
        have f0 : wr.frozen? ⟨w.heap.size + 1 + 1, 3, none⟩ = false := frozen_of_row _ (w.heap.size + 2) 3 _ _ HW.out
        have c1 : wr.cell? ⟨w.heap.size + 1 + 1 + 1, 3, none⟩ = some (.int .i64 0) := cell_of_row _ (w.heap.size + 3) 3 _ _ _ HA.out
        have f1 : wr.frozen? ⟨w.heap.size + 1 + 1 + 1, 3, none⟩ = false := frozen_of_row _ (w.heap.size + 3) 3 _ _ HA.out
        clear hlt hk hk0
        go_wp2
        go_roundw
        case rel => exact ⟨4, by omega, by omega, rfl, (hB.setCell (by show _ ≤ w.heap.size + 1 + 1; omega) _).setCell (by show _ ≤ w.heap.size + 1 + 1 + 1; omega) _, ((Below.heap_setCell _ _ _ _ (by show w.heap.size ≠ w.heap.size + 1 + 1 + 1; omega)).trans (Below.heap_setCell _ _ _ _ (by show w.heap.size ≠ w.heap.size + 1 + 1; omega))).trans HD.out, ((Below.heap_setCell _ _ _ _ (by show w.heap.size + 1 ≠ w.heap.size + 1 + 1 + 1; omega)).trans (Below.heap_setCell _ _ _ _ (by show w.heap.size + 1 ≠ w.heap.size + 1 + 1; omega))).trans HE.out, (Below.heap_setCell _ _ _ _ (by show w.heap.size + 2 ≠ w.heap.size + 1 + 1 + 1; omega)).trans (heap_setCell_same _ (w.heap.size + 2) 3 _ 59 _ HW.out), heap_setCell_same _ (w.heap.size + 3) 3 _ 39 _ ((Below.heap_setCell _ _ _ _ (by show w.heap.size + 3 ≠ w.heap.size + 1 + 1; omega)).trans HA.out)⟩
        case measure => simp [intOf]
    · obtain rfl : k = 4 := by omega
      have hcD : ∀ j v, (#[.int .i64 a, .int .i64 b, .int .i64 c, .int .i64 d, .int .i64 n, .string r] : Array Value)[j]? = some v → wr.cell? ⟨w.heap.size, j, none⟩ = some v := fun j v h => (cell_of_row _ _ j _ _ _ HD.out).trans h
      have hcA : ∀ j v, (RA a b c d 4)[j]? = some v → wr.cell? ⟨w.heap.size + 1 + 1 + 1, j, none⟩ = some v := fun j v h => (cell_of_row _ (w.heap.size + 3) j _ _ _ HA.out).trans h
      have hcW : ∀ j v, (RW a b c d 4)[j]? = some v → wr.cell? ⟨w.heap.size + 1 + 1, j, none⟩ = some v := fun j v h => (cell_of_row _ (w.heap.size + 2) j _ _ _ HW.out).trans h
      have d0 : wr.cell? ⟨w.heap.size, 0, none⟩ = some (.int .i64 a) := hcD 0 _ rfl
      have d1 : wr.cell? ⟨w.heap.size, 1, none⟩ = some (.int .i64 b) := hcD 1 _ rfl
      have d2 : wr.cell? ⟨w.heap.size, 2, none⟩ = some (.int .i64 c) := hcD 2 _ rfl
      have d3 : wr.cell? ⟨w.heap.size, 3, none⟩ = some (.int .i64 d) := hcD 3 _ rfl
      have d4 : wr.cell? ⟨w.heap.size, 4, none⟩ = some (.int .i64 n) := hcD 4 _ rfl
      have d5 : wr.cell? ⟨w.heap.size, 5, none⟩ = some (.string r) := hcD 5 _ rfl
      have a0 : wr.cell? ⟨w.heap.size + 1 + 1 + 1, 0, none⟩ = some (.int .i64 (a % 4294967296)) := hcA 0 _ rfl
      have w0 : wr.cell? ⟨w.heap.size + 1 + 1, 0, none⟩ = some (.int .u32 (a % 4294967296)) := hcW 0 _ rfl
      have a1 : wr.cell? ⟨w.heap.size + 1 + 1 + 1, 1, none⟩ = some (.int .i64 (b % 4294967296)) := hcA 1 _ rfl
      have w1 : wr.cell? ⟨w.heap.size + 1 + 1, 1, none⟩ = some (.int .u32 (b % 4294967296)) := hcW 1 _ rfl
      have a2 : wr.cell? ⟨w.heap.size + 1 + 1 + 1, 2, none⟩ = some (.int .i64 (c % 4294967296)) := hcA 2 _ rfl
      have w2 : wr.cell? ⟨w.heap.size + 1 + 1, 2, none⟩ = some (.int .u32 (c % 4294967296)) := hcW 2 _ rfl
      have a3 : wr.cell? ⟨w.heap.size + 1 + 1 + 1, 3, none⟩ = some (.int .i64 (d % 4294967296)) := hcA 3 _ rfl
      have w3 : wr.cell? ⟨w.heap.size + 1 + 1, 3, none⟩ = some (.int .u32 (d % 4294967296)) := hcW 3 _ rfl
      clear hcD hcA hcW hlt hk hk0
      have hE39 := eq39 a b c d
      by_cases hv : in32 a = true ∧ in32 b = true ∧ in32 c = true ∧ in32 d = true
      · have hi := (in4_iff a b c d).1 hv
        rw [hi] at hE39
        have HV := Lib.hid hv
        clear hv hi
        rcases Int.lt_or_le n 0 with h0 | h0
        · have hd0 : decide (n < 0) = true := by simpa using h0
          go_wp2_with ((with_reducible refine wpList_store_row rfl 61 _ _ rfl (w.heap.size + 1) zd ?_ ?_ 61 _ HE.out 6 ?_ ?_ ?_ ?_ ?_); (next => rfl); (next => rfl); (next => kernel_rfl); (next => rfl); (next => rfl); (next => rfl))
          exact bodyPost_ret (v := .tuple #[.agg zd, .bool false]) (results_row2 rfl _ _ (w.heap.size + 1) 61 zd _ rfl (setRow_heap _ _ _ _ _ _ HE.out) Tryd.underlying61 rfl 6 (by kernel_rfl) rfl (.bool false) rfl) rfl ⟨by rw [readRes, if_neg]; simp [vald]; omega, below_setRow hB (by omega) _⟩
        · have hd0 : decide (n < 0) = false := by simpa using h0
          rcases Int.lt_or_le 65536 n with h1 | h1
          · have hd1 : decide (65536 < n) = true := by simpa using h1
            go_wp2_with ((with_reducible refine wpList_store_row rfl 61 _ _ rfl (w.heap.size + 1) zd ?_ ?_ 61 _ HE.out 6 ?_ ?_ ?_ ?_ ?_); (next => rfl); (next => rfl); (next => kernel_rfl); (next => rfl); (next => rfl); (next => rfl))
            exact bodyPost_ret (v := .tuple #[.agg zd, .bool false]) (results_row2 rfl _ _ (w.heap.size + 1) 61 zd _ rfl (setRow_heap _ _ _ _ _ _ HE.out) Tryd.underlying61 rfl 6 (by kernel_rfl) rfl (.bool false) rfl) rfl ⟨by rw [readRes, if_neg]; simp [vald]; omega, below_setRow hB (by omega) _⟩
          · have hd1 : decide (65536 < n) = false := by simpa using h1
            by_cases h2 : (r.size : Int) = n % 64
            · have h2'' : ((r.size : Int) != n % 64) = false := by simp [h2]
              have hval : vald a b c d n r = true := by
                obtain ⟨v1, v2, v3, v4⟩ := HV.out
                simp [vald, v1, v2, v3, v4, h0, h1, h2]
              have hm := in4_mod a b c d HV.out
              rw [hm.1] at w0
              rw [hm.2.1] at w1
              rw [hm.2.2.1] at w2
              rw [hm.2.2.2] at w3
              have HVAL := Lib.hid hval
              clear h2 hval hm
              go_wp2_with ((with_reducible refine wpList_store_row rfl 61 _ _ rfl (w.heap.size + 1) #[.int .u32 a, .int .u32 b, .int .u32 c, .int .u32 d, .int .i64 n, .string r] ?_ ?_ 61 _ HE.out 6 ?_ ?_ ?_ ?_ ?_); (next => rfl); (next => rfl); (next => kernel_rfl); (next => rfl); (next => rfl); (next => rfl))
              exact bodyPost_ret (v := .tuple #[.agg #[.int .u32 a, .int .u32 b, .int .u32 c, .int .u32 d, .int .i64 n, .string r], .bool true]) (results_row2 rfl _ _ (w.heap.size + 1) 61 #[.int .u32 a, .int .u32 b, .int .u32 c, .int .u32 d, .int .i64 n, .string r] _ rfl (setRow_heap _ _ _ _ _ _ HE.out) Tryd.underlying61 rfl 6 (by kernel_rfl) rfl (.bool true) rfl) rfl ⟨by rw [readRes, if_pos HVAL.out], below_setRow hB (by omega) _⟩
            · have h2'' : ((r.size : Int) != n % 64) = true := by simp [h2]
              have hval : ¬ vald a b c d n r = true := by simp [vald, h2]
              have HVAL := Lib.hid hval
              clear h2 hval
              go_wp2_with ((with_reducible refine wpList_store_row rfl 61 _ _ rfl (w.heap.size + 1) zd ?_ ?_ 61 _ HE.out 6 ?_ ?_ ?_ ?_ ?_); (next => rfl); (next => rfl); (next => kernel_rfl); (next => rfl); (next => rfl); (next => rfl))
              exact bodyPost_ret (v := .tuple #[.agg zd, .bool false]) (results_row2 rfl _ _ (w.heap.size + 1) 61 zd _ rfl (setRow_heap _ _ _ _ _ _ HE.out) Tryd.underlying61 rfl 6 (by kernel_rfl) rfl (.bool false) rfl) rfl ⟨by rw [readRes, if_neg]; exact HVAL.out, below_setRow hB (by omega) _⟩
      · have hi : ([a % 4294967296, b % 4294967296, c % 4294967296, d % 4294967296] == [a, b, c, d]) = false := by
          rw [Bool.eq_false_iff]; exact fun h => hv ((in4_iff a b c d).2 h)
        rw [hi] at hE39
        have hval : ¬ vald a b c d n r = true := by
          intro h
          simp only [vald, Bool.and_eq_true] at h
          exact hv ⟨h.1.1.1.1.1.1, h.1.1.1.1.1.2, h.1.1.1.1.2, h.1.1.1.2⟩
        have HVAL := Lib.hid hval
        clear hv hval hi
        go_wp2_with ((with_reducible refine wpList_store_row rfl 61 _ _ rfl (w.heap.size + 1) zd ?_ ?_ 61 _ HE.out 6 ?_ ?_ ?_ ?_ ?_); (next => rfl); (next => rfl); (next => kernel_rfl); (next => rfl); (next => rfl); (next => rfl))
        exact bodyPost_ret (v := .tuple #[.agg zd, .bool false]) (results_row2 rfl _ _ (w.heap.size + 1) 61 zd _ rfl (setRow_heap _ _ _ _ _ _ HE.out) Tryd.underlying61 rfl 6 (by kernel_rfl) rfl (.bool false) rfl) rfl ⟨by rw [readRes, if_neg]; exact HVAL.out, below_setRow hB (by omega) _⟩
end Go.Proofs.YtfhddcjepgjfnaaDoor
