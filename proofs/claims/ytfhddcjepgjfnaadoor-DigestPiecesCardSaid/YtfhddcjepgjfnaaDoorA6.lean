/- Walks: write, read. -/
import Derived.Test.YtfhddcjepgjfnaaDoorA5
namespace Go.Proofs.YtfhddcjepgjfnaaDoor
open Go.RowKit Md

theorem idxW0 (a b c d : Int) (w : World) : (Instr.index 59 (.agg #[.int .u32 a, .int .u32 b, .int .u32 c, .int .u32 d]) (.int .i64 0)).run Tryd.prog w = .ok (.int .u32 a) w := by kernel_rfl
theorem idxW1 (a b c d : Int) (w : World) : (Instr.index 59 (.agg #[.int .u32 a, .int .u32 b, .int .u32 c, .int .u32 d]) (.int .i64 1)).run Tryd.prog w = .ok (.int .u32 b) w := by kernel_rfl
theorem idxW2 (a b c d : Int) (w : World) : (Instr.index 59 (.agg #[.int .u32 a, .int .u32 b, .int .u32 c, .int .u32 d]) (.int .i64 2)).run Tryd.prog w = .ok (.int .u32 c) w := by kernel_rfl
theorem idxW3 (a b c d : Int) (w : World) : (Instr.index 59 (.agg #[.int .u32 a, .int .u32 b, .int .u32 c, .int .u32 d]) (.int .i64 3)).run Tryd.prog w = .ok (.int .u32 d) w := by kernel_rfl
theorem idxD0 (a b c d : Int) (w : World) : (Instr.index 39 (.agg #[.int .i64 a, .int .i64 b, .int .i64 c, .int .i64 d]) (.int .i64 0)).run Tryd.prog w = .ok (.int .i64 a) w := by kernel_rfl
theorem idxD1 (a b c d : Int) (w : World) : (Instr.index 39 (.agg #[.int .i64 a, .int .i64 b, .int .i64 c, .int .i64 d]) (.int .i64 1)).run Tryd.prog w = .ok (.int .i64 b) w := by kernel_rfl
theorem idxD2 (a b c d : Int) (w : World) : (Instr.index 39 (.agg #[.int .i64 a, .int .i64 b, .int .i64 c, .int .i64 d]) (.int .i64 2)).run Tryd.prog w = .ok (.int .i64 c) w := by kernel_rfl
theorem idxD3 (a b c d : Int) (w : World) : (Instr.index 39 (.agg #[.int .i64 a, .int .i64 b, .int .i64 c, .int .i64 d]) (.int .i64 3)).run Tryd.prog w = .ok (.int .i64 d) w := by kernel_rfl

def WB (s : St) (n : Int) (r : ByteArray) (k : Int) : Array Value := #[.int .i64 (if 0 < k then s.a else 0), .int .i64 (if 1 < k then s.b else 0), .int .i64 (if 2 < k then s.c else 0), .int .i64 (if 3 < k then s.d else 0), .int .i64 n, .string r]

set_option maxRecDepth 100000 in
set_option maxHeartbeats 1000000 in
theorem write_any (s : St) (hs : s.ok) (n : Int) (r : ByteArray) (w : World) :
    Calls Tryd.prog 43 #[.agg #[.int .u32 s.a, .int .u32 s.b, .int .u32 s.c, .int .u32 s.d, .int .i64 n, .string r]] w fun e w' => e = .returned (.agg #[.int .i64 s.a, .int .i64 s.b, .int .i64 s.c, .int .i64 s.d, .int .i64 n, .string r]) ∧ Below w.heap.size w w' := by
  obtain ⟨a, b, c, d⟩ := s
  obtain ⟨ha, hb, hc, hd⟩ := hs
  go_enter Tryd.func43, Tryd.ntmps43
  go_wp2
  go_loopw [4, 5, 13] (fun _ _ x13 wr => ∃ k : Int, 0 ≤ k ∧ k ≤ 4 ∧ x13 = .int .i64 k ∧ Below w.heap.size w wr ∧ wr.heap[w.heap.size + 1]? = some (.cells #[.int .i64 0, .int .i64 0, .int .i64 0, .int .i64 0, .int .i64 0, .string ⟨#[]⟩] 41) ∧ wr.heap[w.heap.size + 2]? = some (.cells (WB ⟨a, b, c, d⟩ n r k) 41)) (fun _ _ i _ => 4 - (intOf i).toNat)
  case atStart =>
    refine ⟨0, by omega, by omega, rfl, (((Below.refl _ _).alloc (Nat.le_refl _) _).alloc (by simp only [World.size_alloc]; omega) _).alloc (by simp only [World.size_alloc]; omega) _, ?_, heap_alloc_at _ _ _ (by simp)⟩
    rw [heap_alloc_lt _ _ _ (by simp)]; exact heap_alloc_at _ _ _ (by simp)
  case round =>
    obtain ⟨k, hk0, hk, rfl, hB, hE, hO⟩ := hrel
    have HE := Lib.hid hE
    have HO := Lib.hid hO
    clear hE hO
    by_cases hlt : k < 4
    · obtain rfl | rfl | rfl | rfl : k = 0 ∨ k = 1 ∨ k = 2 ∨ k = 3 := by omega
      · have i0 := idxW0
        have c0 : wr.cell? ⟨w.heap.size + 1 + 1, 0, none⟩ = some (.int .i64 0) := cell_of_row _ (w.heap.size + 2) 0 _ _ _ HO.out
        have f0 : wr.frozen? ⟨w.heap.size + 1 + 1, 0, none⟩ = false := frozen_of_row _ (w.heap.size + 2) 0 _ _ HO.out
        clear hlt hk hk0
        go_wp2
        go_roundw
        case rel => exact ⟨1, by omega, by omega, rfl, hB.setCell (by show _ ≤ w.heap.size + 1 + 1; omega) _, (Below.heap_setCell _ _ _ _ (by show w.heap.size + 1 ≠ w.heap.size + 1 + 1; omega)).trans HE.out, heap_setCell_same _ (w.heap.size + 2) 0 _ 41 _ HO.out⟩
        case measure => simp [intOf]
      · have i0 := idxW1
        have c0 : wr.cell? ⟨w.heap.size + 1 + 1, 1, none⟩ = some (.int .i64 0) := cell_of_row _ (w.heap.size + 2) 1 _ _ _ HO.out
        have f0 : wr.frozen? ⟨w.heap.size + 1 + 1, 1, none⟩ = false := frozen_of_row _ (w.heap.size + 2) 1 _ _ HO.out
        clear hlt hk hk0
        go_wp2
        go_roundw
        case rel => exact ⟨2, by omega, by omega, rfl, hB.setCell (by show _ ≤ w.heap.size + 1 + 1; omega) _, (Below.heap_setCell _ _ _ _ (by show w.heap.size + 1 ≠ w.heap.size + 1 + 1; omega)).trans HE.out, heap_setCell_same _ (w.heap.size + 2) 1 _ 41 _ HO.out⟩
        case measure => simp [intOf]
      · have i0 := idxW2
        have c0 : wr.cell? ⟨w.heap.size + 1 + 1, 2, none⟩ = some (.int .i64 0) := cell_of_row _ (w.heap.size + 2) 2 _ _ _ HO.out
        have f0 : wr.frozen? ⟨w.heap.size + 1 + 1, 2, none⟩ = false := frozen_of_row _ (w.heap.size + 2) 2 _ _ HO.out
        clear hlt hk hk0
        go_wp2
        go_roundw
        case rel => exact ⟨3, by omega, by omega, rfl, hB.setCell (by show _ ≤ w.heap.size + 1 + 1; omega) _, (Below.heap_setCell _ _ _ _ (by show w.heap.size + 1 ≠ w.heap.size + 1 + 1; omega)).trans HE.out, heap_setCell_same _ (w.heap.size + 2) 2 _ 41 _ HO.out⟩
        case measure => simp [intOf]
      · have i0 := idxW3
        have c0 : wr.cell? ⟨w.heap.size + 1 + 1, 3, none⟩ = some (.int .i64 0) := cell_of_row _ (w.heap.size + 2) 3 _ _ _ HO.out
        have f0 : wr.frozen? ⟨w.heap.size + 1 + 1, 3, none⟩ = false := frozen_of_row _ (w.heap.size + 2) 3 _ _ HO.out
        clear hlt hk hk0
        go_wp2
        go_roundw
        case rel => exact ⟨4, by omega, by omega, rfl, hB.setCell (by show _ ≤ w.heap.size + 1 + 1; omega) _, (Below.heap_setCell _ _ _ _ (by show w.heap.size + 1 ≠ w.heap.size + 1 + 1; omega)).trans HE.out, heap_setCell_same _ (w.heap.size + 2) 3 _ 41 _ HO.out⟩
        case measure => simp [intOf]
    · obtain rfl : k = 4 := by omega
      have hcs : WB ⟨a, b, c, d⟩ n r 4 = #[.int .i64 a, .int .i64 b, .int .i64 c, .int .i64 d, .int .i64 n, .string r] := rfl
      have HO2 : Hid (wr.heap[w.heap.size + 1 + 1]? = some (.cells #[.int .i64 a, .int .i64 b, .int .i64 c, .int .i64 d, .int .i64 n, .string r] 41)) := hcs ▸ HO.out
      clear hlt hk hk0 hcs
      go_wp2_with (first | (refine wpList_load_whole rfl 41 _ rfl (w.heap.size + 1 + 1) rfl 41 _ _ HO2.out Tryd.underlying41 rfl 6 ?c1 rfl ?_) | (refine wpList_store_row rfl 41 _ _ rfl (w.heap.size + 1) #[.int .i64 a, .int .i64 b, .int .i64 c, .int .i64 d, .int .i64 n, .string r] rfl rfl 41 _ HE.out 6 ?c3 rfl rfl rfl ?_))
      case c1 => kernel_rfl
      case c3 => kernel_rfl
      exact bodyPost_ret (v := .agg #[.int .i64 a, .int .i64 b, .int .i64 c, .int .i64 d, .int .i64 n, .string r]) (results_row rfl _ _ (w.heap.size + 1) 41 _ _ rfl (setRow_heap _ _ _ _ _ _ HE.out) Tryd.underlying41 rfl 6 (by kernel_rfl) rfl) rfl ⟨rfl, below_setRow hB (by omega) _⟩
end Go.Proofs.YtfhddcjepgjfnaaDoor
