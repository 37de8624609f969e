/- Walks: the exported functions More, Done. -/
import Derived.Test.YtfhddcjepgjfnaaDoorA9
namespace Go.Proofs.YtfhddcjepgjfnaaDoor
open Go.RowKit Md

theorem vald_nat (s : St) (hs : s.ok) (n : Nat) (hn : n ≤ 65536) (r : ByteArray) (hr : r.size = n % 64) : vald s.a s.b s.c s.d n r = true := by
  obtain ⟨h1, h2, h3, h4⟩ := hs
  simp [vald, in32]; omega

/-- What 'More' returns of a valid digest in progress. -/
def moreRes (s : St) (n : Nat) (r x : ByteArray) : Value := if 65536 < n + x.size then .tuple #[.agg zdv, .int .i64 3] else .tuple #[.agg (dv (changed s (asc r.data.toList ++ asc x.data.toList)).a (changed s (asc r.data.toList ++ asc x.data.toList)).b (changed s (asc r.data.toList ++ asc x.data.toList)).c (changed s (asc r.data.toList ++ asc x.data.toList)).d (n + x.size : Nat) ((r ++ x).extract (r.size + x.size - (r.size + x.size) % 64) (r.size + x.size))), .int .i64 0]
theorem moreRes_long (s : St) (n : Nat) (r x : ByteArray) (h : 65536 < n + x.size) : moreRes s n r x = .tuple #[.agg zdv, .int .i64 3] := by
  unfold moreRes; rw [if_pos h]
theorem moreRes_short (s : St) (n : Nat) (r x : ByteArray) (h : ¬ 65536 < n + x.size) (t : St) (ht : changed s (asc r.data.toList ++ asc x.data.toList) = t) (q : ByteArray) (hq : (r ++ x).extract (r.size + x.size - (r.size + x.size) % 64) (r.size + x.size) = q) :
    moreRes s n r x = .tuple #[.agg #[.int .i64 t.a, .int .i64 t.b, .int .i64 t.c, .int .i64 t.d, .int .i64 (n + x.size), .string q], .int .i64 0] := by
  unfold moreRes; rw [if_neg h, ht, hq]; rfl

set_option maxRecDepth 100000 in
set_option maxHeartbeats 1000000 in
theorem xmore_no (a b c d n : Int) (r x : ByteArray) (h : vald a b c d n r = false) (w : World) :
    Calls Tryd.prog 22 #[.agg #[.int .i64 a, .int .i64 b, .int .i64 c, .int .i64 d, .int .i64 n, .string r], .string x] w fun e w' => e = .returned (.tuple #[.agg zdv, .int .i64 80]) ∧ Below w.heap.size w w' := by
  have H := Lib.hid h
  clear h
  go_enter Tryd.func22, Tryd.ntmps22
  go_wp2_with fail
  refine (read_no a b c d n r H.out _).mono ?_
  rintro e w1 ⟨rfl, hB1⟩
  have HB1 : Hid (Below w.heap.size w w1) := Lib.hid ((((Below.refl _ w).alloc (Nat.le_refl _) _).alloc (by simp) _).trans (hB1.mono (by simp; omega)))
  have HZ1 : Hid (w1.heap[w.heap.size + 1]? = some (.cells zdv 41 (0, 0))) := Lib.hid ((hB1.block _ (by simp)).trans (heap_alloc_at _ _ _ (by simp)))
  have hlt1 : w.heap.size + 1 < w1.heap.size := (Array.getElem?_eq_some_iff.1 HZ1.out).1
  clear hB1
  have HZ2 : Hid (∀ o, (w1.alloc o).heap[w.heap.size + 1]? = some (.cells zdv 41 (0, 0))) := fun o => (heap_alloc_lt _ _ _ hlt1).trans HZ1.out
  go_wp2_with ((with_reducible refine wpList_store_row rfl 41 _ _ rfl (w.heap.size + 1) (zdv) ?_ ?_ 41 _ (HZ2.out _) 6 ?_ ?_ ?_ ?_ ?_); (next => rfl); (next => rfl); (next => kernel_rfl); (next => rfl); (next => rfl); (next => rfl))
  exact bodyPost_ret (v := .tuple #[.agg zdv, .int .i64 80]) (results_row2 rfl _ _ (w.heap.size + 1) 41 zdv _ rfl (setRow_heap _ _ _ _ _ _ (HZ2.out _)) Tryd.underlying41 rfl 6 (by kernel_rfl) rfl (.int .i64 80) rfl) rfl ⟨rfl, below_setRow (HB1.out.alloc HB1.out.size _) (by omega) _⟩

set_option maxRecDepth 100000 in
set_option maxHeartbeats 1000000 in
/-- The part of 'More' up to the test of the length is walked alike in both cases. -/
theorem xmore_yes (s : St) (hs : s.ok) (n : Nat) (hn : n ≤ 65536) (r : ByteArray) (hr : r.size = n % 64) (x : ByteArray) (hx : x.size ≤ 140737488355328) (w : World) (hK : HasK w) :
    Calls Tryd.prog 22 #[.agg #[.int .i64 s.a, .int .i64 s.b, .int .i64 s.c, .int .i64 s.d, .int .i64 n, .string r], .string x] w fun e w' => e = .returned (moreRes s n r x) ∧ Below w.heap.size w w' := by
  have HK : Hid (HasK w) := hK
  have HS := Lib.hid hs
  have HR := Lib.hid hr
  have H := Lib.hid (vald_nat s hs n hn r hr)
  have hrs : r.size < 64 := by omega
  clear hs hr hK
  go_enter Tryd.func22, Tryd.ntmps22
  go_wp2_with fail
  refine (read_ok s.a s.b s.c s.d n r H.out _).mono ?_
  rintro e w1 ⟨rfl, hB1⟩
  have HB1 : Hid (Below w.heap.size w w1) := Lib.hid ((((Below.refl _ w).alloc (Nat.le_refl _) _).alloc (by simp) _).trans (hB1.mono (by simp; omega)))
  have HZ1 : Hid (w1.heap[w.heap.size + 1]? = some (.cells zdv 41 (0, 0))) := Lib.hid ((hB1.block _ (by simp)).trans (heap_alloc_at _ _ _ (by simp)))
  have d4 : w1.cell? ⟨w.heap.size, 4, none⟩ = some (.int .i64 n) := by
    rw [hB1.cell (p := ⟨w.heap.size, 4, none⟩) (by simp; omega)]; simp
  have hlt1 : w.heap.size + 1 < w1.heap.size := (Array.getElem?_eq_some_iff.1 HZ1.out).1
  have hlt0 : w.heap.size < w1.heap.size := by omega
  clear hB1
  have HZ2 : Hid (∀ o, (w1.alloc o).heap[w.heap.size + 1]? = some (.cells zdv 41 (0, 0))) := fun o => (heap_alloc_lt _ _ _ hlt1).trans HZ1.out
  by_cases hlong : 65536 < n + x.size
  · have hd : (65536 : Int) < n + x.size := by omega
    have HL := Lib.hid hlong
    clear hlong
    go_wp2_with ((with_reducible refine wpList_store_row rfl 41 _ _ rfl (w.heap.size + 1) (zdv) ?_ ?_ 41 _ (HZ2.out _) 6 ?_ ?_ ?_ ?_ ?_); (next => rfl); (next => rfl); (next => kernel_rfl); (next => rfl); (next => rfl); (next => rfl))
    exact bodyPost_ret (v := .tuple #[.agg zdv, .int .i64 3]) (results_row2 rfl _ _ (w.heap.size + 1) 41 zdv _ rfl (setRow_heap _ _ _ _ _ _ (HZ2.out _)) Tryd.underlying41 rfl 6 (by kernel_rfl) rfl (.int .i64 3) rfl) rfl ⟨ret_eq (moreRes_long s n r x HL.out).symm, below_setRow (HB1.out.alloc HB1.out.size _) (by omega) _⟩
  · have hd : decide ((65536 : Int) < n + x.size) = false := by rw [decide_eq_false_iff_not]; omega
    have hxs : x.size ≤ 65536 := by omega
    have HL := Lib.hid hlong
    obtain ⟨t, ht⟩ : ∃ t, changed s (asc r.data.toList ++ asc x.data.toList) = t := ⟨_, rfl⟩
    obtain ⟨q, hq⟩ : ∃ q, (r ++ x).extract (r.size + x.size - (r.size + x.size) % 64) (r.size + x.size) = q := ⟨_, rfl⟩
    have Ht := Lib.hid ht
    have Hq := Lib.hid hq
    have hok : Hid t.ok := ht ▸ changed_ok _ HS.out _
    have HKA : Hid (∀ o, HasK (w1.alloc o)) := fun o => HK.out.below (HB1.out.alloc HB1.out.size o) HK.out.pos
    have HM : Hid (∀ W : World, HasK W → _) := fun (W : World) (h : HasK W) => more_lit s HS.out n (by omega) (by omega) r x (by omega) (by omega) t ht q hq W h
    clear hlong ht hq
    go_wp2_with fail
    refine (HM.out _ (HKA.out _)).mono ?_
    rintro e w2 ⟨rfl, hB2⟩
    have HB2 : Hid (Below w.heap.size w w2) := Lib.hid ((HB1.out.alloc HB1.out.size _).trans (hB2.mono (by simp; omega)))
    have HZ3 : Hid (w2.heap[w.heap.size + 1]? = some (.cells zdv 41 (0, 0))) := Lib.hid ((hB2.block _ (by simp; omega)).trans (HZ2.out _))
    have hlt2 : w.heap.size + 1 < w2.heap.size := (Array.getElem?_eq_some_iff.1 HZ3.out).1
    clear hB2
    go_wp2_with fail
    refine (write_any t hok.out (n + x.size) q _).mono ?_
    rintro e w3 ⟨rfl, hB3⟩
    have HZ4 : Hid (w3.heap[w.heap.size + 1]? = some (.cells zdv 41 (0, 0))) := Lib.hid ((hB3.block _ hlt2).trans HZ3.out)
    have HB3 := Lib.hid hB3
    clear hB3
    go_wp2_with ((with_reducible refine wpList_store_row rfl 41 _ _ rfl (w.heap.size + 1) (#[.int .i64 t.a, .int .i64 t.b, .int .i64 t.c, .int .i64 t.d, .int .i64 (n + x.size), .string q]) ?_ ?_ 41 _ HZ4.out 6 ?_ ?_ ?_ ?_ ?_); (next => rfl); (next => rfl); (next => kernel_rfl); (next => rfl); (next => rfl); (next => rfl))
    exact bodyPost_ret (v := .tuple #[.agg #[.int .i64 t.a, .int .i64 t.b, .int .i64 t.c, .int .i64 t.d, .int .i64 (n + x.size), .string q], .int .i64 0]) (results_row2 rfl _ _ (w.heap.size + 1) 41 _ _ rfl (setRow_heap _ _ _ _ _ _ HZ4.out) Tryd.underlying41 rfl 6 (by kernel_rfl) rfl (.int .i64 0) rfl) rfl ⟨ret_eq (moreRes_short s n r x HL.out t Ht.out q Hq.out).symm, below_setRow (HB2.out.trans (HB3.out.mono (by omega))) (by omega) _⟩

set_option maxRecDepth 100000 in
set_option maxHeartbeats 1000000 in
theorem xdone_no (a b c d n : Int) (r : ByteArray) (h : vald a b c d n r = false) (w : World) :
    Calls Tryd.prog 23 #[.agg #[.int .i64 a, .int .i64 b, .int .i64 c, .int .i64 d, .int .i64 n, .string r]] w fun e w' => e = .returned (.tuple #[.agg z16, .int .i64 80]) ∧ Below w.heap.size w w' := by
  have H := Lib.hid h
  clear h
  go_enter Tryd.func23, Tryd.ntmps23
  go_wp2_with fail
  refine (read_no a b c d n r H.out _).mono ?_
  rintro e w1 ⟨rfl, hB1⟩
  have HB1 : Hid (Below w.heap.size w w1) := Lib.hid ((((Below.refl _ w).alloc (Nat.le_refl _) _).alloc (by simp) _).trans (hB1.mono (by simp; omega)))
  have HZ1 : Hid (w1.heap[w.heap.size + 1]? = some (.cells z16 28 (0, 0))) := Lib.hid ((hB1.block _ (by simp)).trans (heap_alloc_at _ _ _ (by simp)))
  have hlt1 : w.heap.size + 1 < w1.heap.size := (Array.getElem?_eq_some_iff.1 HZ1.out).1
  clear hB1
  have HZ2 : Hid (∀ o, (w1.alloc o).heap[w.heap.size + 1]? = some (.cells z16 28 (0, 0))) := fun o => (heap_alloc_lt _ _ _ hlt1).trans HZ1.out
  go_wp2_with ((with_reducible refine wpList_store_row rfl 28 _ _ rfl (w.heap.size + 1) (z16) ?_ ?_ 28 _ (HZ2.out _) 16 ?_ ?_ ?_ ?_ ?_); (next => rfl); (next => rfl); (next => kernel_rfl); (next => rfl); (next => rfl); (next => rfl))
  exact bodyPost_ret (v := .tuple #[.agg z16, .int .i64 80]) (results_row2 rfl _ _ (w.heap.size + 1) 28 z16 _ rfl (setRow_heap _ _ _ _ _ _ (HZ2.out _)) Tryd.underlying28 rfl 16 (by kernel_rfl) rfl (.int .i64 80) rfl) rfl ⟨rfl, below_setRow (HB1.out.alloc HB1.out.size _) (by omega) _⟩

set_option maxRecDepth 100000 in
set_option maxHeartbeats 1000000 in
theorem xdone_yes (s : St) (hs : s.ok) (n : Nat) (hn : n ≤ 65536) (r : ByteArray) (hr : r.size = n % 64) (w : World) (hK : HasK w) :
    Calls Tryd.prog 23 #[.agg #[.int .i64 s.a, .int .i64 s.b, .int .i64 s.c, .int .i64 s.d, .int .i64 n, .string r]] w fun e w' => e = .returned (.tuple #[.agg (ob (told (changed s (ended (asc r.data.toList) n)))), .int .i64 0]) ∧ Below w.heap.size w w' := by
  have HK : Hid (HasK w) := hK
  have HS := Lib.hid hs
  have H := Lib.hid (vald_nat s hs n hn r hr)
  have hrs : r.size < 64 := by omega
  clear hs hr hK
  go_enter Tryd.func23, Tryd.ntmps23
  go_wp2_with fail
  refine (read_ok s.a s.b s.c s.d n r H.out _).mono ?_
  rintro e w1 ⟨rfl, hB1⟩
  have HB1 : Hid (Below w.heap.size w w1) := Lib.hid ((((Below.refl _ w).alloc (Nat.le_refl _) _).alloc (by simp) _).trans (hB1.mono (by simp; omega)))
  have HZ1 : Hid (w1.heap[w.heap.size + 1]? = some (.cells z16 28 (0, 0))) := Lib.hid ((hB1.block _ (by simp)).trans (heap_alloc_at _ _ _ (by simp)))
  have hlt1 : w.heap.size + 1 < w1.heap.size := (Array.getElem?_eq_some_iff.1 HZ1.out).1
  clear hB1
  have HZ2 : Hid (∀ o, (w1.alloc o).heap[w.heap.size + 1]? = some (.cells z16 28 (0, 0))) := fun o => (heap_alloc_lt _ _ _ hlt1).trans HZ1.out
  have HKA : Hid (∀ o, HasK (w1.alloc o)) := fun o => HK.out.below (HB1.out.alloc HB1.out.size o) HK.out.pos
  go_wp2_with fail
  refine (done_any s HS.out n (by omega) r hrs _ (HKA.out _)).mono ?_
  rintro e w2 ⟨rfl, hB2⟩
  have HB2 : Hid (Below w.heap.size w w2) := Lib.hid ((HB1.out.alloc HB1.out.size _).trans (hB2.mono (by simp; omega)))
  have HZ3 : Hid (w2.heap[w.heap.size + 1]? = some (.cells z16 28 (0, 0))) := Lib.hid ((hB2.block _ (by simp; omega)).trans (HZ2.out _))
  clear hB2
  go_wp2_with ((with_reducible refine wpList_store_row rfl 28 _ _ rfl (w.heap.size + 1) (ob (told (changed s (ended (asc r.data.toList) n)))) ?_ ?_ 28 _ HZ3.out 16 ?_ ?_ ?_ ?_ ?_); (next => rfl); (next => rfl); (next => kernel_rfl); (next => rfl); (next => exact ob_size _); (next => exact ob_one _))
  exact bodyPost_ret (v := .tuple #[.agg (ob (told (changed s (ended (asc r.data.toList) n)))), .int .i64 0]) (results_row2 rfl _ _ (w.heap.size + 1) 28 _ _ rfl (setRow_heap _ _ _ _ _ _ HZ3.out) Tryd.underlying28 rfl 16 (by kernel_rfl) (ob_size _) (.int .i64 0) rfl) rfl ⟨rfl, below_setRow HB2.out (by omega) _⟩
end Go.Proofs.YtfhddcjepgjfnaaDoor
