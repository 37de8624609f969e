/- The walk of the statement DigestSums. -/
import Derived.Test.YtfhddcjepgjfnaaDoorA27
import Derived.Test.YtfhddcjepgjfnaaDoorA21
import Derived.Test.YtfhddcjepgjfnaaDoorA28
namespace Go.Proofs.YtfhddcjepgjfnaaDoor
open Go.RowKit Md

theorem sum_both (s : ByteArray) : ∃ (l : List Nat) (c : Int), l.length = 16 ∧
    (∀ w, HasK w → Calls Tryd.prog 12 #[.string s] w fun e w' => e = .returned (.tuple #[.agg (ob l), .int .i64 c]) ∧ Below w.heap.size w w') ∧
    (∀ w, Calls Tryd.prog 13 #[.string s] w fun e w' => e = .returned (.tuple #[.agg (ob l), .int .i64 c]) ∧ Below w.heap.size w w') := by
  by_cases h : 65536 < s.size
  · exact ⟨List.replicate 16 0, 3, rfl, fun w _ => sum_long s h w, fun w => sumI_long s h w⟩
  · exact ⟨md5 (asc s.data.toList), 0, md5_len _, fun w hK => sum_short s (by omega) w hK, fun w => sumI_short s (by omega) w⟩
theorem bwith {w w1 w2 : World} (h1 : Below w.heap.size w w1) (h2 : Below w1.heap.size w1 w2) : Below w.heap.size w w2 := h1.trans (h2.mono h1.size)

set_option maxRecDepth 100000 in
set_option maxHeartbeats 1000000 in
theorem sums_any (S L : ByteArray) (T : Nat) (all : Bool) (hT : T < 65536) (hS : S.size ≤ 140737488355328) (hL : L.size ≤ 140737488355328) (w : World) (hK : HasK w) :
    Calls Tryd.prog 3 #[.agg #[.string S, .string L, .int .u16 T], .bool all] w fun e w' => e = .returned (.bool true) ∧ Below w.heap.size w w' := by
  have HK := Lib.hid hK
  have hp := hK.pos
  clear hK
  go_enter Tryd.func3, Tryd.ntmps3
  go_wp2_with fail
  refine (works_any _ (HK.out.below ((Below.refl _ _).alloc (Nat.le_refl _) _) hp)).mono ?_
  rintro e w1 ⟨rfl, hB1⟩
  have HC : Hid (w1.heap[w.heap.size]? = some (.cells #[.string S, .string L, .int .u16 T] 24 (0, 0))) := Lib.hid ((hB1.block _ (by simp)).trans (heap_alloc_at _ _ _ rfl))
  have HB1 : Hid (Below w.heap.size w w1) := Lib.hid (bwith ((Below.refl _ _).alloc (Nat.le_refl _) _) hB1)
  have hlt : w.heap.size < w1.heap.size := (Array.getElem?_eq_some_iff.1 HC.out).1
  have HO : Hid (∀ W : World, _) := fun (W : World) => octetsL_any all S L T hT hS hL W
  have hy : min (L.size : Int) 300 = ((min L.size 300 : Nat) : Int) := by omega
  have hy1 : min L.size 300 ≤ 300 := by omega
  have hy2 : min L.size 300 ≤ L.size := by omega
  generalize min L.size 300 = y at *
  have hy3 : (y : Int) ≤ L.size := by omega
  have hy4 : (0 : Int) ≤ y := by omega
  clear hB1
  go_wp2_with fail
  have D0 : ∀ W, Below w1.heap.size w1 W → W.cell? ⟨w.heap.size, 0, none⟩ = some (.string S) := fun W h => (h.cell (p := ⟨w.heap.size, 0, none⟩) hlt).trans (cell_of_row _ _ 0 _ _ _ HC.out)
  have D1 : ∀ W, Below w1.heap.size w1 W → W.cell? ⟨w.heap.size, 1, none⟩ = some (.string L) := fun W h => (h.cell (p := ⟨w.heap.size, 1, none⟩) hlt).trans (cell_of_row _ _ 1 _ _ _ HC.out)
  have D2 : ∀ W, Below w1.heap.size w1 W → W.cell? ⟨w.heap.size, 2, none⟩ = some (.int .u16 T) := fun W h => (h.cell (p := ⟨w.heap.size, 2, none⟩) hlt).trans (cell_of_row _ _ 2 _ _ _ HC.out)
  have hrefl : Below w1.heap.size w1 w1 := Below.refl _ _
  have hreflD : Below w1.heap.size w1 w1.drew := (Below.refl _ _).drew
  go_cut [23, 24] (fun x23 x24 W => ∃ t u : ByteArray, x23 = .agg #[.string t, .string u] ∧ x24 = .int .i64 0 ∧ Below w1.heap.size w1 W)
  case first =>
    go_region_held3 (fun W => Below w1.heap.size w1 W) (first | with_reducible exact hrefl | with_reducible exact hreflD | with_reducible exact HB2) ((go_at_call 11; refine (HO.out _).mono ?_; rintro e w2 ⟨t, rfl, ht, hB2⟩; have HB2 : Below w1.heap.size w1 w2 := hreflD.trans hB2; clear hB2 ht))
    all_goals go_wp2_with fail
    all_goals go_meet
    all_goals exact ⟨_, _, rfl, rfl, HB2⟩
  case rest =>
    obtain ⟨t, u, rfl, rfl, hB2⟩ := hcut
    have HB2 : Hid (Below w.heap.size w wc) := Lib.hid (bwith HB1.out hB2)
    clear hB2 D0 D1 D2 hrefl hreflD
    go_wp2_with fail
    go_loopw [24] (fun x24 W => ∃ k : Nat, k ≤ 2 ∧ x24 = .int .i64 k ∧ Below w.heap.size w W) (fun x24 _ => 2 - (intOf x24).toNat)
    case atStart => exact ⟨0, by omega, rfl, HB2.out⟩
    case round =>
      obtain ⟨k, hk, rfl, hB3⟩ := hrel
      by_cases hlt2 : k < 2
      · obtain ⟨s, hs⟩ : ∃ s, (#[Value.string t, .string u] : Array Value)[k]? = some (.string s) := by
          match k, hlt2 with
          | 0, _ => exact ⟨t, rfl⟩
          | 1, _ => exact ⟨u, rfl⟩
        have hix := fun W => run_index_one (P := Tryd.prog) (n := 2) Tryd.underlying27 Tryd.isAgg9 Tryd.sizeOf9 #[Value.string t, .string u] k (.string s) hlt2 hs W
        obtain ⟨l, c, hl, h12, h13⟩ := sum_both s
        have H12 := Lib.hid h12
        have H13 := Lib.hid h13
        have HL := Lib.hid hl
        have HB3 := Lib.hid hB3
        clear h12 h13 hl hB3 hs
        go_wp2_with fail
        refine (H12.out _ (HK.out.below HB3.out hp)).mono ?_
        rintro e w2 ⟨rfl, hB4⟩
        have HB4 : Hid (Below w.heap.size w (w2.alloc (.cells (ob l) 28))) := Lib.hid (bwith (bwith HB3.out hB4) ((Below.refl _ _).alloc (Nat.le_refl _) _))
        have HA : Hid ((w2.alloc (.cells (ob l) 28)).heap[w2.heap.size]? = some (.cells (ob l) 28 (0, 0))) := Lib.hid (heap_alloc_at _ _ _ rfl)
        clear hB4
        go_wp2_with ((with_reducible refine wpList_store_new rfl 28 _ _ rfl _ (ob l) ?_ ?_ 16 ?_ ?_ ?_ ?_ ?_); (next => rfl); (next => rfl); (next => kernel_rfl); (next => rfl); (next => exact ob_size16 _ HL.out); (next => exact ob_one _))
        refine (H13.out _).mono ?_
        rintro e w3 ⟨rfl, hB5⟩
        have HA1 : Hid ((w3.alloc (.cells (ob l) 28)).heap[w2.heap.size]? = some (.cells (ob l) 28 (0, 0))) := Lib.hid ((heap_alloc_lt _ _ _ (Nat.lt_of_lt_of_le (by simp) hB5.size)).trans ((hB5.block _ (by simp)).trans HA.out))
        have HA2 : Hid ((w3.alloc (.cells (ob l) 28)).heap[w3.heap.size]? = some (.cells (ob l) 28 (0, 0))) := Lib.hid (heap_alloc_at _ _ _ rfl)
        have HB5 : Hid (Below w.heap.size w (w3.alloc (.cells (ob l) 28))) := Lib.hid (bwith (bwith HB4.out hB5) ((Below.refl _ _).alloc (Nat.le_refl _) _))
        have he := eq28 l l HL.out HL.out
        rw [show (l == l) = true by simp] at he
        clear hB5
        go_wp2_with (first | ((with_reducible refine wpList_store_new rfl 28 _ _ rfl _ (ob l) ?_ ?_ 16 ?_ ?_ ?_ ?_ ?_); (next => rfl); (next => rfl); (next => kernel_rfl); (next => rfl); (next => exact ob_size16 _ HL.out); (next => exact ob_one _)) | ((with_reducible refine wpList_load_whole rfl 28 _ rfl (w2.heap.size) ?_ 28 (ob l) _ HA1.out Tryd.underlying28 ?_ 16 ?_ ?_ ?_); (next => rfl); (next => rfl); (next => kernel_rfl); (next => exact ob_size16 _ HL.out)) | ((with_reducible refine wpList_load_whole rfl 28 _ rfl (w3.heap.size) ?_ 28 (ob l) _ HA2.out Tryd.underlying28 ?_ 16 ?_ ?_ ?_); (next => rfl); (next => rfl); (next => kernel_rfl); (next => exact ob_size16 _ HL.out)))
        go_roundw
        case rel => exact ⟨k + 1, by omega, by go_num, HB5.out⟩
        case measure => simp [intOf]; omega
      · obtain rfl : k = 2 := by omega
        have HB3 := Lib.hid hB3
        clear hlt2 hk hB3
        go_wp2_with fail
        go_ret
        exact ⟨rfl, HB3.out⟩
end Go.Proofs.YtfhddcjepgjfnaaDoor
