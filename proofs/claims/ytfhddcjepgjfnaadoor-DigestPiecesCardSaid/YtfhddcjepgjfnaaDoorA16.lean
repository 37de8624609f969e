/- The walk of the reference's changed. -/
import Derived.Test.YtfhddcjepgjfnaaDoorA15
import Derived.Test.YtfhddcjepgjfnaaDoorA4
import Derived.StillTailTactics
namespace Go.Proofs.YtfhddcjepgjfnaaDoor
open Go.RowKit Md

abbrev sI (s : St) : Array Value := #[.int .i64 s.a, .int .i64 s.b, .int .i64 s.c, .int .i64 s.d]

theorem changed_short (s : St) (l : List Nat) (h : l.length < 64) : changed s l = s := by
  unfold changed; rw [show l.length / 64 = 0 by omega]; rfl
theorem changed_step (s : St) (q : ByteArray) (h : 64 ≤ q.size) : changed (blk s (asc (q.extract 0 64).data.toList)) (asc (q.extract 64 q.size).data.toList) = changed s (asc q.data.toList) := by
  rw [asc_extract, asc_extract, List.drop_zero, Nat.sub_zero, List.take_of_length_le (i := q.size - 64) (by rw [List.length_drop, asc_length]; exact Nat.le_refl _)]
  have hl : (asc q.data.toList).length = q.size := asc_length _
  generalize asc q.data.toList = l at *
  unfold changed
  rw [show l.length / 64 = (l.drop 64).length / 64 + 1 by rw [List.length_drop]; omega, chg]

set_option maxRecDepth 100000 in
set_option maxHeartbeats 1000000 in
theorem changedI_any (st : St) (hst : st.ok) (s : ByteArray) (w : World) :
    Calls Tryd.prog 35 #[.agg (sI st), .string s] w fun e w' => e = .returned (.agg (sI (changed st (asc s.data.toList)))) ∧ Below w.heap.size w w' := by
  obtain ⟨tt, htt⟩ : ∃ tt, changed st (asc s.data.toList) = tt := ⟨_, rfl⟩
  rw [htt]
  have Htt := Lib.hid htt
  clear htt
  go_enter Tryd.func35, Tryd.ntmps35
  go_wp2
  go_loopw [1] (fun x wr => ∃ (q : ByteArray) (t : St), x = .string q ∧ t.ok ∧ q.size ≤ s.size ∧ Hid (changed t (asc q.data.toList) = tt) ∧ Below w.heap.size w wr ∧ wr.heap[w.heap.size]? = some (.cells (sI t) 39 (0, 0)) ∧ wr.heap[w.heap.size + 1]? = some (.cells #[.int .i64 0, .int .i64 0, .int .i64 0, .int .i64 0] 39 (0, 0))) (fun x _ => match x with | .string q => q.size | _ => 0)
  case atStart => exact ⟨s, st, rfl, hst, Nat.le_refl _, Htt, ((Below.refl _ _).alloc (Nat.le_refl _) _).alloc (by simp) _, by rw [heap_alloc_lt _ _ _ (by simp)]; exact heap_alloc_at _ _ _ rfl, heap_alloc_at _ _ _ (by simp)⟩
  case round =>
    obtain ⟨q, t, rfl, hok, hle, HT, hB, hh, hh2⟩ := hrel
    obtain ⟨ta, tb, tc, td⟩ := t
    have hta : ta < 4294967296 := hok.1
    have htb : tb < 4294967296 := hok.2.1
    have htc : tc < 4294967296 := hok.2.2.1
    have htd : td < 4294967296 := hok.2.2.2
    have Hh := Lib.hid hh
    have Hh2 := Lib.hid hh2
    clear hh hh2 hok
    by_cases hlt : 64 ≤ q.size
    · have c0 : wr.cell? ⟨w.heap.size, 0, none⟩ = some (.int .i64 ta) := cell_of_row _ _ 0 _ _ _ Hh.out
      have c1 : wr.cell? ⟨w.heap.size, 1, none⟩ = some (.int .i64 tb) := cell_of_row _ _ 1 _ _ _ Hh.out
      have c2 : wr.cell? ⟨w.heap.size, 2, none⟩ = some (.int .i64 tc) := cell_of_row _ _ 2 _ _ _ Hh.out
      have c3 : wr.cell? ⟨w.heap.size, 3, none⟩ = some (.int .i64 td) := cell_of_row _ _ 3 _ _ _ Hh.out
      go_wp2_with fail
      go_still_tail 3, (by kernel_rfl)
      change wpList _ _ _ _ _ wr.drew
      have hsz : w.heap.size + 1 < wr.heap.size := (Array.getElem?_eq_some_iff.1 Hh2.out).1
      go_wp2_with fail
      refine (blockI_any ta tb tc td hta htb htc htd _ (by simp; omega) _).mono ?_
      rintro e w1 ⟨rfl, hB1⟩
      have hB1' : Below wr.heap.size wr w1 := undrew hB1
      have Hh1 := Lib.hid ((hB1'.block _ (by omega)).trans Hh.out)
      have Hh3 := Lib.hid ((hB1'.block _ hsz).trans Hh2.out)
      have hT : changed (blk ⟨ta, tb, tc, td⟩ (asc (q.extract 0 64).data.toList)) (asc (q.extract 64 q.size).data.toList) = tt := by
        rw [← HT.out]; exact changed_step _ q hlt
      have hok2 := blk_ok ⟨ta, tb, tc, td⟩ (asc (q.extract 0 64).data.toList)
      generalize blk ⟨ta, tb, tc, td⟩ (asc (q.extract 0 64).data.toList) = t2 at *
      have HT2 := Lib.hid hT
      clear hT c0 c1 c2 c3 hB1
      go_wp2_with ((with_reducible refine wpList_store_row rfl 39 _ _ rfl (w.heap.size) (sI t2) ?_ ?_ 39 _ Hh1.out 4 ?_ ?_ ?_ ?_ ?_); (next => rfl); (next => rfl); (next => kernel_rfl); (next => rfl); (next => rfl); (next => rfl))
      go_roundw
      case rel => exact ⟨_, t2, rfl, hok2, by simp; omega, HT2, below_setRow (hB.trans (hB1'.mono (by omega))) (Nat.le_refl _) _, setRow_heap _ _ _ _ _ _ Hh1.out, (setRow_other _ _ _ _ (by omega)).trans Hh3.out⟩
      case measure => simp; omega
    · have hfin : tt = ⟨ta, tb, tc, td⟩ := by
        rw [← HT.out]; exact changed_short _ _ (by rw [asc_length]; omega)
      subst hfin
      have c0 : wr.cell? ⟨w.heap.size, 0, none⟩ = some (.int .i64 ta) := cell_of_row _ _ 0 _ _ _ Hh.out
      have c1 : wr.cell? ⟨w.heap.size, 1, none⟩ = some (.int .i64 tb) := cell_of_row _ _ 1 _ _ _ Hh.out
      have c2 : wr.cell? ⟨w.heap.size, 2, none⟩ = some (.int .i64 tc) := cell_of_row _ _ 2 _ _ _ Hh.out
      have c3 : wr.cell? ⟨w.heap.size, 3, none⟩ = some (.int .i64 td) := cell_of_row _ _ 3 _ _ _ Hh.out
      go_wp2_with ((with_reducible refine wpList_store_row rfl 39 _ _ rfl (w.heap.size + 1) (sI ⟨ta, tb, tc, td⟩) ?_ ?_ 39 _ Hh2.out 4 ?_ ?_ ?_ ?_ ?_); (next => rfl); (next => rfl); (next => kernel_rfl); (next => rfl); (next => rfl); (next => rfl))
      exact bodyPost_ret (v := .agg (sI ⟨ta, tb, tc, td⟩)) (results_row rfl _ _ (w.heap.size + 1) 39 _ _ rfl (setRow_heap _ _ _ _ _ _ Hh2.out) Tryd.underlying39 rfl 4 (by kernel_rfl) rfl) rfl ⟨rfl, below_setRow hB (by omega) _⟩
end Go.Proofs.YtfhddcjepgjfnaaDoor
