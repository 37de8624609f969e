/- Walks: the reference's Sum. -/
import Derived.Test.YtfhddcjepgjfnaaDoorA18
import Derived.Test.YtfhddcjepgjfnaaDoorA9
namespace Go.Proofs.YtfhddcjepgjfnaaDoor
open Go.RowKit Md

set_option maxRecDepth 100000 in
set_option maxHeartbeats 1000000 in
theorem sumI_long (s : ByteArray) (h : 65536 < s.size) (w : World) :
    Calls Tryd.prog 13 #[.string s] w fun e w' => e = .returned (.tuple #[.agg z16, .int .i64 3]) ∧ Below w.heap.size w w' := by
  go_enter Tryd.func13, Tryd.ntmps13
  go_wp2_with ((with_reducible refine wpList_store_new rfl 28 _ _ rfl _ z16 ?_ ?_ 16 ?_ ?_ ?_ ?_ ?_); (next => rfl); (next => rfl); (next => kernel_rfl); (next => rfl); (next => rfl); (next => rfl))
  exact bodyPost_ret (v := .tuple #[.agg z16, .int .i64 3]) (results_row2 rfl _ _ w.heap.size 28 z16 _ rfl (heap_alloc_at _ _ _ rfl) Tryd.underlying28 rfl 16 (by kernel_rfl) rfl (.int .i64 3) rfl) rfl ⟨rfl, (Below.refl _ _).alloc (Nat.le_refl _) _⟩

set_option maxRecDepth 100000 in
set_option maxHeartbeats 1000000 in
theorem sumI_short (s : ByteArray) (h : s.size ≤ 65536) (w : World) :
    Calls Tryd.prog 13 #[.string s] w fun e w' => e = .returned (.tuple #[.agg (ob (md5 (asc s.data.toList))), .int .i64 0]) ∧ Below w.heap.size w w' := by
  go_enter Tryd.func13, Tryd.ntmps13
  go_wp2_with fail
  refine (begin_any _).mono ?_
  rintro e w1 ⟨rfl, hB1⟩
  have HB1 : Hid (Below w.heap.size w w1) := Lib.hid (((Below.refl _ w).alloc (Nat.le_refl _) _).trans (hB1.mono (by simp)))
  have HZ1 : Hid (w1.heap[w.heap.size]? = some (.cells z16 28 (0, 0))) := Lib.hid ((hB1.block _ (by simp)).trans (heap_alloc_at _ _ _ rfl))
  have hlt1 : w.heap.size < w1.heap.size := (Array.getElem?_eq_some_iff.1 HZ1.out).1
  clear hB1
  go_wp2_with fail
  refine (endedI_any s s.size (by omega) (by omega) w1).mono ?_
  rintro e w2 ⟨t, rfl, ht, _, hB2⟩
  have Ht := Lib.hid ht
  have HB2 := Lib.hid hB2
  have HZ2 : Hid (w2.heap[w.heap.size]? = some (.cells z16 28 (0, 0))) := Lib.hid ((hB2.block _ hlt1).trans HZ1.out)
  have hlt2 : w.heap.size < w2.heap.size := (Array.getElem?_eq_some_iff.1 HZ2.out).1
  clear hB2 ht
  go_wp2_with fail
  refine (changedI_any Md.begin begin_ok t w2).mono ?_
  rintro e w3 ⟨rfl, hB3⟩
  have HB3 := Lib.hid hB3
  have HZ3 : Hid (w3.heap[w.heap.size]? = some (.cells z16 28 (0, 0))) := Lib.hid ((hB3.block _ hlt2).trans HZ2.out)
  have hlt3 : w.heap.size < w3.heap.size := (Array.getElem?_eq_some_iff.1 HZ3.out).1
  obtain ⟨u, hu⟩ : ∃ u, changed Md.begin (asc t.data.toList) = u := ⟨_, rfl⟩
  have hok : u.ok := hu ▸ changed_ok _ begin_ok _
  rw [hu]
  have Hu := Lib.hid hu
  clear hB3 hu
  go_wp2_with fail
  refine (toldI_any u hok w3).mono ?_
  rintro e w4 ⟨rfl, hB4⟩
  have HB4 := Lib.hid hB4
  have HZ4 : Hid (w4.heap[w.heap.size]? = some (.cells z16 28 (0, 0))) := Lib.hid ((hB4.block _ hlt3).trans HZ3.out)
  clear hB4
  have hfin : told u = md5 (asc s.data.toList) := by
    rw [← Hu.out, Ht.out, md5, asc_length]
  rw [hfin]
  clear hfin
  go_wp2_with ((with_reducible refine wpList_store_row rfl 28 _ _ rfl (w.heap.size) (ob (md5 (asc s.data.toList))) ?_ ?_ 28 _ HZ4.out 16 ?_ ?_ ?_ ?_ ?_); (next => rfl); (next => rfl); (next => kernel_rfl); (next => rfl); (next => exact ob_size _); (next => exact ob_one _))
  exact bodyPost_ret (v := .tuple #[.agg (ob (md5 (asc s.data.toList))), .int .i64 0]) (results_row2 rfl _ _ w.heap.size 28 _ _ rfl (setRow_heap _ _ _ _ _ _ HZ4.out) Tryd.underlying28 rfl 16 (by kernel_rfl) (ob_size _) (.int .i64 0) rfl) rfl ⟨rfl, below_setRow (((HB1.out.trans (HB2.out.mono (Nat.le_of_lt hlt1))).trans (HB3.out.mono (Nat.le_of_lt hlt2))).trans (HB4.out.mono (Nat.le_of_lt hlt3))) (Nat.le_refl _) _⟩
end Go.Proofs.YtfhddcjepgjfnaaDoor
