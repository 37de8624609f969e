/- The walk of the statement DigestBack. -/
import Derived.Test.YtfhddcjepgjfnaaDoorA27
import Derived.Test.YtfhddcjepgjfnaaDoorA30
import Derived.Test.YtfhddcjepgjfnaaDoorLaws2
namespace Go.Proofs.YtfhddcjepgjfnaaDoor
open Go.RowKit Md

set_option maxRecDepth 100000 in
set_option maxHeartbeats 1000000 in
theorem back_any (l : List Nat) (hl : l.length = 16) (hb : ∀ i, l.getD i 0 < 256) (t : ByteArray) (ht : t.size ≤ 140737488355328) (w : World) (hK : HasK w) :
    Calls Tryd.prog 6 #[.agg (ob l), .string t] w fun e w' => e = .returned (.bool true) ∧ Below w.heap.size w w' := by
  have HK := Lib.hid hK
  have hp := hK.pos
  have HL := Lib.hid hl
  have HLT := Lib.hid hb
  have hqs : (ByteArray.mk (hexOf l).toArray).size = 32 := by
    show (hexOf l).toArray.size = 32
    rw [List.size_toArray, hexOf_length, hl]
  obtain ⟨q, hq⟩ : ∃ q : ByteArray, ⟨(hexOf l).toArray⟩ = q := ⟨_, rfl⟩
  have HU : Hid (∀ W, Calls Tryd.prog 15 #[.string q] W fun e w' => e = .returned (.tuple #[.agg (ob l), .int .i64 0]) ∧ Below W.heap.size W w') := Lib.hid (fun W => by
    have := unhex_any q (by rw [← hq]; omega) W
    rw [← hq, unhex_hex l hl hb, hq] at this
    exact this)
  have HX : Hid (∀ W, Calls Tryd.prog 17 #[.agg (ob l)] W fun e w' => e = .returned (.string q) ∧ Below W.heap.size W w') := Lib.hid (fun W => by
    have := hex_any l hl hb W
    rw [hq] at this
    exact this)
  rw [hq] at hqs
  have Hqs := Lib.hid hqs
  have he := eq28 l l hl hl
  rw [show (l == l) = true by simp] at he
  have HE := Lib.hid he
  have hy : min (t.size : Int) 40 = ((min t.size 40 : Nat) : Int) := by omega
  have hy1 : min t.size 40 ≤ 40 := by omega
  have hy2 : min t.size 40 ≤ t.size := by omega
  generalize min t.size 40 = y at *
  have hy3 : (y : Int) ≤ t.size := by omega
  have hy4 : (0 : Int) ≤ y := by omega
  clear hK hl hb hq hqs he
  go_enter Tryd.func6, Tryd.ntmps6
  go_wp2_with fail
  refine (works_any _ (HK.out.below ((Below.refl _ _).alloc (Nat.le_refl _) _) hp)).mono ?_
  rintro e w1 ⟨rfl, hB1⟩
  have HC : Hid (w1.heap[w.heap.size]? = some (.cells (ob l) 28 (0, 0))) := Lib.hid ((hB1.block _ (by simp)).trans (heap_alloc_at _ _ _ rfl))
  have HB1 : Hid (Below w.heap.size w w1) := Lib.hid (bwith ((Below.refl _ _).alloc (Nat.le_refl _) _) hB1)
  have hlt1 : w.heap.size < w1.heap.size := (Array.getElem?_eq_some_iff.1 HC.out).1
  clear hB1
  go_wp2_with ((with_reducible refine wpList_load_whole rfl 28 _ rfl (w.heap.size) ?_ 28 (ob l) _ HC.out Tryd.underlying28 ?_ 16 ?_ ?_ ?_); (next => rfl); (next => rfl); (next => kernel_rfl); (next => exact ob_size16 _ HL.out))
  refine (HX.out _).mono ?_
  rintro e w2 ⟨rfl, hB2⟩
  have HC2 : Hid (w2.heap[w.heap.size]? = some (.cells (ob l) 28 (0, 0))) := Lib.hid ((hB2.block _ hlt1).trans HC.out)
  have HB2 : Hid (Below w.heap.size w w2) := Lib.hid (bwith HB1.out hB2)
  have hlt2 : w.heap.size < w2.heap.size := (Array.getElem?_eq_some_iff.1 HC2.out).1
  clear hB2
  go_wp2_with fail
  refine (HU.out _).mono ?_
  rintro e w3 ⟨rfl, hB3⟩
  have hlt3 : w.heap.size < w3.heap.size := Nat.lt_of_lt_of_le hlt2 hB3.size
  have HC3 : Hid ((w3.alloc (.cells (ob l) 28)).heap[w.heap.size]? = some (.cells (ob l) 28 (0, 0))) := Lib.hid ((heap_alloc_lt _ _ _ hlt3).trans ((hB3.block _ hlt2).trans HC2.out))
  have HD3 : Hid ((w3.alloc (.cells (ob l) 28)).heap[w3.heap.size]? = some (.cells (ob l) 28 (0, 0))) := Lib.hid (heap_alloc_at _ _ _ rfl)
  have HB3 : Hid (Below w.heap.size w (w3.alloc (.cells (ob l) 28))) := Lib.hid (bwith (bwith HB2.out hB3) ((Below.refl _ _).alloc (Nat.le_refl _) _))
  have he := HE.out
  clear hB3
  go_wp2_with (first | ((with_reducible refine wpList_store_new rfl 28 _ _ rfl _ (ob l) ?_ ?_ 16 ?_ ?_ ?_ ?_ ?_); (next => rfl); (next => rfl); (next => kernel_rfl); (next => rfl); (next => exact ob_size16 _ HL.out); (next => exact ob_one _)) | ((with_reducible refine wpList_load_wanted ?_ 28 _ rfl (w3.heap.size) ?_ 28 (ob l) _ HD3.out Tryd.underlying28 ?_ 16 ?_ ?_ ?_); (next => rfl); (next => rfl); (next => rfl); (next => kernel_rfl); (next => exact ob_size16 _ HL.out)) | ((with_reducible refine wpList_load_wanted ?_ 28 _ rfl (w.heap.size) ?_ 28 (ob l) _ HC3.out Tryd.underlying28 ?_ 16 ?_ ?_ ?_); (next => rfl); (next => rfl); (next => rfl); (next => kernel_rfl); (next => exact ob_size16 _ HL.out)))
  refine (HX.out _).mono ?_
  rintro e w4 ⟨rfl, hB4⟩
  have HB4 : Hid (Below w.heap.size w w4) := Lib.hid (bwith HB3.out hB4)
  have hq32 : ((q.size : Int) != 32) = false := by rw [Hqs.out]; rfl
  clear hB4 he
  by_cases hr : (asc (t.extract 0 y).data.toList).length = 32 ∧ digs (asc (t.extract 0 y).data.toList) 32
  · have hxs : (t.extract 0 y).size ≤ 140737488355328 := by rw [ByteArray.size_extract]; omega
    have hx1 := hex_unhex _ hr.1 hr.2
    have hm1 := unhexL_length (asc (t.extract 0 y).data.toList)
    have hm2 := unhexL_lt _ hr.2
    have hun := fun W => unhex_any (t.extract 0 y) hxs W
    unfold unhexRes at hun
    rw [if_pos hr] at hun
    generalize unhexL (asc (t.extract 0 y).data.toList) = m at *
    have HX2 : Hid (∀ W, Calls Tryd.prog 17 #[.agg (ob m)] W fun e w' => e = .returned (.string (t.extract 0 y)) ∧ Below W.heap.size W w') := Lib.hid (fun W => by
      have := hex_any m hm1 hm2 W
      rw [hx1] at this
      exact this)
    have HUN := Lib.hid hun
    have HM := Lib.hid hm1
    clear hx1 hm2 hun hm1 hr hxs
    go_wp2_with fail
    refine (HUN.out _).mono ?_
    rintro e w5 ⟨rfl, hB5⟩
    have HD5 : Hid ((w5.alloc (.cells (ob m) 28)).heap[w5.heap.size]? = some (.cells (ob m) 28 (0, 0))) := Lib.hid (heap_alloc_at _ _ _ rfl)
    have HB5 : Hid (Below w.heap.size w (w5.alloc (.cells (ob m) 28))) := Lib.hid (bwith (bwith HB4.out hB5) ((Below.refl _ _).alloc (Nat.le_refl _) _))
    clear hB5
    go_wp2_with (first | ((with_reducible refine wpList_store_new rfl 28 _ _ rfl _ (ob m) ?_ ?_ 16 ?_ ?_ ?_ ?_ ?_); (next => rfl); (next => rfl); (next => kernel_rfl); (next => rfl); (next => exact ob_size16 _ HM.out); (next => exact ob_one _)) | ((with_reducible refine wpList_load_wanted ?_ 28 _ rfl (w5.heap.size) ?_ 28 (ob m) _ HD5.out Tryd.underlying28 ?_ 16 ?_ ?_ ?_); (next => rfl); (next => rfl); (next => rfl); (next => kernel_rfl); (next => exact ob_size16 _ HM.out)))
    refine (HX2.out _).mono ?_
    rintro e w6 ⟨rfl, hB6⟩
    have HB6 : Hid (Below w.heap.size w w6) := Lib.hid (bwith HB5.out hB6)
    clear hB6
    go_wp2_with fail
    go_ret
    exact ⟨rfl, HB6.out⟩
  · have hxs : (t.extract 0 y).size ≤ 140737488355328 := by rw [ByteArray.size_extract]; omega
    have hun := fun W => unhex_any (t.extract 0 y) hxs W
    unfold unhexRes at hun
    rw [if_neg hr] at hun
    have HUN := Lib.hid hun
    clear hun hr hxs
    go_wp2_with fail
    refine (HUN.out _).mono ?_
    rintro e w5 ⟨rfl, hB5⟩
    have HD5 : Hid ((w5.alloc (.cells z16 28)).heap[w5.heap.size]? = some (.cells z16 28 (0, 0))) := Lib.hid (heap_alloc_at _ _ _ rfl)
    have HB5 : Hid (Below w.heap.size w (w5.alloc (.cells z16 28))) := Lib.hid (bwith (bwith HB4.out hB5) ((Below.refl _ _).alloc (Nat.le_refl _) _))
    have he := eq28z
    clear hB5
    go_wp2_with (first | ((with_reducible refine wpList_store_new rfl 28 _ _ rfl _ z16 ?_ ?_ 16 ?_ ?_ ?_ ?_ ?_); (next => rfl); (next => rfl); (next => kernel_rfl); (next => rfl); (next => rfl); (next => rfl)) | ((with_reducible refine wpList_load_wanted ?_ 28 _ rfl (w5.heap.size) ?_ 28 z16 _ HD5.out Tryd.underlying28 ?_ 16 ?_ ?_ ?_); (next => rfl); (next => rfl); (next => rfl); (next => kernel_rfl); (next => rfl)))
    go_ret
    exact ⟨rfl, HB5.out⟩
end Go.Proofs.YtfhddcjepgjfnaaDoor
