/- Walks: the exported functions Sum, New, Check, More, Done. -/
import Derived.Test.YtfhddcjepgjfnaaDoorA8
import Derived.Test.YtfhddcjepgjfnaaDoorLaws
namespace Go.Proofs.YtfhddcjepgjfnaaDoor
open Go.RowKit Md

abbrev z16 : Array Value := #[.int .u8 0, .int .u8 0, .int .u8 0, .int .u8 0, .int .u8 0, .int .u8 0, .int .u8 0, .int .u8 0, .int .u8 0, .int .u8 0, .int .u8 0, .int .u8 0, .int .u8 0, .int .u8 0, .int .u8 0, .int .u8 0]
theorem ob_size (s : St) : (ob (told s)).size = 16 := by simp [ob, told_length]
theorem rest_of (r s : ByteArray) : asc ((r ++ s).extract (r.size + s.size - (r.size + s.size) % 64) (r.size + s.size)).data.toList = rest (asc r.data.toList ++ asc s.data.toList) := by
  rw [asc_extract, asc_append]
  unfold rest
  rw [List.length_append, asc_length, asc_length, List.take_of_length_le]
  · congr 1; omega
  · rw [List.length_drop, List.length_append, asc_length, asc_length]; omega
theorem rest_size (r s : ByteArray) : ((r ++ s).extract (r.size + s.size - (r.size + s.size) % 64) (r.size + s.size)).size < 64 := by
  rw [ByteArray.size_extract, ByteArray.size_append]; omega
theorem begin_ok : St.ok Md.begin := ⟨by decide, by decide, by decide, by decide⟩
theorem chg_ok : ∀ (n : Nat) (s : St), s.ok → ∀ l, (chg n s l).ok
  | 0, _, h, _ => h
  | n+1, s, _, _l => chg_ok n _ (blk_ok s _) _
theorem changed_ok (s : St) (h : s.ok) (l : List Nat) : (changed s l).ok := chg_ok _ s h l

set_option maxRecDepth 100000 in
set_option maxHeartbeats 1000000 in
theorem sum_long (s : ByteArray) (h : 65536 < s.size) (w : World) :
    Calls Tryd.prog 12 #[.string s] w fun e w' => e = .returned (.tuple #[.agg z16, .int .i64 3]) ∧ Below w.heap.size w w' := by
  go_enter Tryd.func12, Tryd.ntmps12
  go_wp2_with ((with_reducible refine wpList_store_new rfl 28 _ _ rfl _ z16 ?_ ?_ 16 ?_ ?_ ?_ ?_ ?_); (next => rfl); (next => rfl); (next => kernel_rfl); (next => rfl); (next => rfl); (next => rfl))
  exact bodyPost_ret (v := .tuple #[.agg z16, .int .i64 3]) (results_row2 rfl _ _ w.heap.size 28 z16 _ rfl (heap_alloc_at _ _ _ rfl) Tryd.underlying28 rfl 16 (by kernel_rfl) rfl (.int .i64 3) rfl) rfl ⟨rfl, (Below.refl _ _).alloc (Nat.le_refl _) _⟩

set_option maxRecDepth 100000 in
set_option maxHeartbeats 1000000 in
theorem sum_short (s : ByteArray) (h : s.size ≤ 65536) (w : World) (hK : HasK w) :
    Calls Tryd.prog 12 #[.string s] w fun e w' => e = .returned (.tuple #[.agg (ob (md5 (asc s.data.toList))), .int .i64 0]) ∧ Below w.heap.size w w' := by
  have HK : Hid (HasK w) := hK
  clear hK
  go_enter Tryd.func12, Tryd.ntmps12
  go_wp2_with fail
  refine (start_any _).mono ?_
  rintro e w1 ⟨rfl, hB1⟩
  have HB1 : Hid (Below w.heap.size w w1) := Lib.hid (((Below.refl _ w).alloc (Nat.le_refl _) _).trans (hB1.mono (by simp)))
  have HZ1 : Hid (w1.heap[w.heap.size]? = some (.cells z16 28 (0, 0))) := Lib.hid ((hB1.block _ (by simp)).trans (heap_alloc_at _ _ _ rfl))
  have hlt1 : w.heap.size < w1.heap.size := (Array.getElem?_eq_some_iff.1 HZ1.out).1
  have HK1 : Hid (HasK w1) := HK.out.below HB1.out HK.out.pos
  clear hB1
  obtain ⟨t, ht⟩ : ∃ t, changed Md.begin (asc (⟨#[]⟩ : ByteArray).data.toList ++ asc s.data.toList) = t := ⟨_, rfl⟩
  obtain ⟨q, hq⟩ : ∃ q, ((⟨#[]⟩ : ByteArray) ++ s).extract ((⟨#[]⟩ : ByteArray).size + s.size - ((⟨#[]⟩ : ByteArray).size + s.size) % 64) ((⟨#[]⟩ : ByteArray).size + s.size) = q := ⟨_, rfl⟩
  have hqs : q.size < 64 := hq ▸ rest_size _ _
  have hqr : asc q.data.toList = rest (asc (⟨#[]⟩ : ByteArray).data.toList ++ asc s.data.toList) := hq ▸ rest_of _ _
  have hok : t.ok := ht ▸ changed_ok _ begin_ok _
  have HM := Lib.hid (more_lit Md.begin begin_ok 0 (by omega) (by omega) ⟨#[]⟩ s (by decide) (by omega) t ht q hq w1 HK1.out)
  have Ht := Lib.hid ht
  have Hqr := Lib.hid hqr
  clear ht hq hqr
  go_wp2_with fail
  refine HM.out.mono ?_
  rintro e w2 ⟨rfl, hB2⟩
  have HB2 := Lib.hid hB2
  have HK2 : Hid (HasK w2) := HK1.out.below hB2 (Nat.lt_of_le_of_lt (Nat.zero_le _) hlt1)
  have HZ2 : Hid (w2.heap[w.heap.size]? = some (.cells z16 28 (0, 0))) := Lib.hid ((hB2.block _ hlt1).trans HZ1.out)
  have hlt2 : w.heap.size < w2.heap.size := (Array.getElem?_eq_some_iff.1 HZ2.out).1
  clear hB2
  go_wp2_with fail
  refine (done_any t hok s.size (by omega) q hqs w2 HK2.out).mono ?_
  rintro e w3 ⟨rfl, hB3⟩
  have HZ3 : Hid (w3.heap[w.heap.size]? = some (.cells z16 28 (0, 0))) := Lib.hid ((hB3.block _ hlt2).trans HZ2.out)
  have HB3 := Lib.hid hB3
  have hfin : told (changed t (ended (asc q.data.toList) s.size)) = md5 (asc s.data.toList) := by
    have e0 : asc (⟨#[]⟩ : ByteArray).data.toList ++ asc s.data.toList = asc s.data.toList := rfl
    rw [Hqr.out, e0, ← Ht.out, e0, changed_ended, md5, asc_length]
  rw [hfin]
  clear hB3 hfin
  go_wp2_with ((with_reducible refine wpList_store_row rfl 28 _ _ rfl (w.heap.size) (ob (md5 (asc s.data.toList))) ?_ ?_ 28 _ HZ3.out 16 ?_ ?_ ?_ ?_ ?_); (next => rfl); (next => rfl); (next => kernel_rfl); (next => rfl); (next => exact ob_size _); (next => exact ob_one _))
  exact bodyPost_ret (v := .tuple #[.agg (ob (md5 (asc s.data.toList))), .int .i64 0]) (results_row2 rfl _ _ w.heap.size 28 _ _ rfl (setRow_heap _ _ _ _ _ _ HZ3.out) Tryd.underlying28 rfl 16 (by kernel_rfl) (ob_size _) (.int .i64 0) rfl) rfl ⟨rfl, below_setRow ((HB1.out.trans (HB2.out.mono (Nat.le_of_lt hlt1))).trans (HB3.out.mono (Nat.le_of_lt hlt2))) (Nat.le_refl _) _⟩

/-- A digest in progress of package api, as values. -/
def dv (a b c d n : Int) (r : ByteArray) : Array Value := #[.int .i64 a, .int .i64 b, .int .i64 c, .int .i64 d, .int .i64 n, .string r]
abbrev zdv : Array Value := #[.int .i64 0, .int .i64 0, .int .i64 0, .int .i64 0, .int .i64 0, .string ⟨#[]⟩]

set_option maxRecDepth 100000 in
set_option maxHeartbeats 1000000 in
theorem new_any (w : World) :
    Calls Tryd.prog 20 #[] w fun e w' => e = .returned (.agg #[.int .i64 1732584193, .int .i64 4023233417, .int .i64 2562383102, .int .i64 271733878, .int .i64 0, .string ⟨#[]⟩]) ∧ Below w.heap.size w w' := by
  go_enter Tryd.func20, Tryd.ntmps20
  go_wp2_with fail
  refine (start_any _).mono ?_
  rintro e w1 ⟨rfl, hB1⟩
  have HB1 : Hid (Below w.heap.size w w1) := Lib.hid (((Below.refl _ w).alloc (Nat.le_refl _) _).trans (hB1.mono (by simp)))
  have HZ1 : Hid (w1.heap[w.heap.size]? = some (.cells zdv 41 (0, 0))) := Lib.hid ((hB1.block _ (by simp)).trans (heap_alloc_at _ _ _ rfl))
  have hlt1 : w.heap.size < w1.heap.size := (Array.getElem?_eq_some_iff.1 HZ1.out).1
  clear hB1
  go_wp2_with fail
  refine (write_any Md.begin begin_ok 0 ⟨#[]⟩ _).mono ?_
  rintro e w2 ⟨rfl, hB2⟩
  have HZ2 : Hid (w2.heap[w.heap.size]? = some (.cells zdv 41 (0, 0))) := Lib.hid ((hB2.block _ hlt1).trans HZ1.out)
  have HB2 := Lib.hid hB2
  clear hB2
  go_wp2_with ((with_reducible refine wpList_store_row rfl 41 _ _ rfl (w.heap.size) (#[.int .i64 1732584193, .int .i64 4023233417, .int .i64 2562383102, .int .i64 271733878, .int .i64 0, .string ⟨#[]⟩]) ?_ ?_ 41 _ HZ2.out 6 ?_ ?_ ?_ ?_ ?_); (next => rfl); (next => rfl); (next => kernel_rfl); (next => rfl); (next => rfl); (next => rfl))
  exact bodyPost_ret (v := .agg #[.int .i64 1732584193, .int .i64 4023233417, .int .i64 2562383102, .int .i64 271733878, .int .i64 0, .string ⟨#[]⟩]) (results_row rfl _ _ w.heap.size 41 _ _ rfl (setRow_heap _ _ _ _ _ _ HZ2.out) Tryd.underlying41 rfl 6 (by kernel_rfl) rfl) rfl ⟨rfl, below_setRow (HB1.out.trans (HB2.out.mono (Nat.le_of_lt hlt1))) (Nat.le_refl _) _⟩

theorem read_ok (a b c d n : Int) (r : ByteArray) (h : vald a b c d n r = true) (w : World) :
    Calls Tryd.prog 44 #[.agg #[.int .i64 a, .int .i64 b, .int .i64 c, .int .i64 d, .int .i64 n, .string r]] w fun e w' => e = .returned (.tuple #[.agg #[.int .u32 a, .int .u32 b, .int .u32 c, .int .u32 d, .int .i64 n, .string r], .bool true]) ∧ Below w.heap.size w w' := by
  have := read_any a b c d n r w
  rw [readRes, if_pos h] at this
  exact this
theorem read_no (a b c d n : Int) (r : ByteArray) (h : vald a b c d n r = false) (w : World) :
    Calls Tryd.prog 44 #[.agg #[.int .i64 a, .int .i64 b, .int .i64 c, .int .i64 d, .int .i64 n, .string r]] w fun e w' => e = .returned (.tuple #[.agg #[.int .u32 0, .int .u32 0, .int .u32 0, .int .u32 0, .int .i64 0, .string ⟨#[]⟩], .bool false]) ∧ Below w.heap.size w w' := by
  have := read_any a b c d n r w
  rw [readRes, if_neg (by simp [h])] at this
  exact this

set_option maxRecDepth 100000 in
set_option maxHeartbeats 1000000 in
theorem check_ok (a b c d n : Int) (r : ByteArray) (h : vald a b c d n r = true) (w : World) :
    Calls Tryd.prog 25 #[.agg #[.int .i64 a, .int .i64 b, .int .i64 c, .int .i64 d, .int .i64 n, .string r]] w fun e w' => e = .returned (.int .i64 0) ∧ Below w.heap.size w w' := by
  have H := Lib.hid h
  clear h
  go_enter Tryd.func25, Tryd.ntmps25
  go_wp2_with fail
  refine (read_ok a b c d n r H.out _).mono ?_
  rintro e w1 ⟨rfl, hB1⟩
  have HB1 : Hid (Below w.heap.size w w1) := Lib.hid (((Below.refl _ w).alloc (Nat.le_refl _) _).trans (hB1.mono (by simp)))
  clear hB1
  go_wp2_with fail
  go_ret
  exact ⟨rfl, HB1.out.alloc HB1.out.size _⟩

set_option maxRecDepth 100000 in
set_option maxHeartbeats 1000000 in
theorem check_no (a b c d n : Int) (r : ByteArray) (h : vald a b c d n r = false) (w : World) :
    Calls Tryd.prog 25 #[.agg #[.int .i64 a, .int .i64 b, .int .i64 c, .int .i64 d, .int .i64 n, .string r]] w fun e w' => e = .returned (.int .i64 80) ∧ Below w.heap.size w w' := by
  have H := Lib.hid h
  clear h
  go_enter Tryd.func25, Tryd.ntmps25
  go_wp2_with fail
  refine (read_no a b c d n r H.out _).mono ?_
  rintro e w1 ⟨rfl, hB1⟩
  have HB1 : Hid (Below w.heap.size w w1) := Lib.hid (((Below.refl _ w).alloc (Nat.le_refl _) _).trans (hB1.mono (by simp)))
  clear hB1
  go_wp2_with fail
  go_ret
  exact ⟨rfl, HB1.out.alloc HB1.out.size _⟩
end Go.Proofs.YtfhddcjepgjfnaaDoor
