/- Walks: the statements' works (the examples of the chapter). -/
import Derived.Test.YtfhddcjepgjfnaaDoorA26
import Derived.Test.YtfhddcjepgjfnaaDoorA10
import Derived.Test.YtfhddcjepgjfnaaDoorA16
namespace Go.Proofs.YtfhddcjepgjfnaaDoor
open Go.RowKit Md

theorem of_hex (s want : ByteArray) (h : hexOf (md5 (asc s.data.toList)) = want.data.toList) : ByteArray.mk (hexOf (md5 (asc s.data.toList))).toArray = want := by
  rw [h]
theorem ex_0 : ByteArray.mk (hexOf (md5 (asc (⟨#[]⟩ : ByteArray).data.toList))).toArray = (⟨#[100, 52, 49, 100, 56, 99, 100, 57, 56, 102, 48, 48, 98, 50, 48, 52, 101, 57, 56, 48, 48, 57, 57, 56, 101, 99, 102, 56, 52, 50, 55, 101]⟩ : ByteArray) := of_hex ⟨#[]⟩ ⟨#[100, 52, 49, 100, 56, 99, 100, 57, 56, 102, 48, 48, 98, 50, 48, 52, 101, 57, 56, 48, 48, 57, 57, 56, 101, 99, 102, 56, 52, 50, 55, 101]⟩ (by decide +kernel)
theorem ex_1 : ByteArray.mk (hexOf (md5 (asc (⟨#[97]⟩ : ByteArray).data.toList))).toArray = (⟨#[48, 99, 99, 49, 55, 53, 98, 57, 99, 48, 102, 49, 98, 54, 97, 56, 51, 49, 99, 51, 57, 57, 101, 50, 54, 57, 55, 55, 50, 54, 54, 49]⟩ : ByteArray) := of_hex ⟨#[97]⟩ ⟨#[48, 99, 99, 49, 55, 53, 98, 57, 99, 48, 102, 49, 98, 54, 97, 56, 51, 49, 99, 51, 57, 57, 101, 50, 54, 57, 55, 55, 50, 54, 54, 49]⟩ (by decide +kernel)
theorem ex_2 : ByteArray.mk (hexOf (md5 (asc (⟨#[97, 98, 99]⟩ : ByteArray).data.toList))).toArray = (⟨#[57, 48, 48, 49, 53, 48, 57, 56, 51, 99, 100, 50, 52, 102, 98, 48, 100, 54, 57, 54, 51, 102, 55, 100, 50, 56, 101, 49, 55, 102, 55, 50]⟩ : ByteArray) := of_hex ⟨#[97, 98, 99]⟩ ⟨#[57, 48, 48, 49, 53, 48, 57, 56, 51, 99, 100, 50, 52, 102, 98, 48, 100, 54, 57, 54, 51, 102, 55, 100, 50, 56, 101, 49, 55, 102, 55, 50]⟩ (by decide +kernel)
theorem ex_3 : ByteArray.mk (hexOf (md5 (asc (⟨#[109, 101, 115, 115, 97, 103, 101, 32, 100, 105, 103, 101, 115, 116]⟩ : ByteArray).data.toList))).toArray = (⟨#[102, 57, 54, 98, 54, 57, 55, 100, 55, 99, 98, 55, 57, 51, 56, 100, 53, 50, 53, 97, 50, 102, 51, 49, 97, 97, 102, 49, 54, 49, 100, 48]⟩ : ByteArray) := of_hex ⟨#[109, 101, 115, 115, 97, 103, 101, 32, 100, 105, 103, 101, 115, 116]⟩ ⟨#[102, 57, 54, 98, 54, 57, 55, 100, 55, 99, 98, 55, 57, 51, 56, 100, 53, 50, 53, 97, 50, 102, 51, 49, 97, 97, 102, 49, 54, 49, 100, 48]⟩ (by decide +kernel)
theorem ex_up : unhexRes (asc (⟨#[68, 52, 49, 68, 56, 67, 68, 57, 56, 70, 48, 48, 66, 50, 48, 52, 69, 57, 56, 48, 48, 57, 57, 56, 69, 67, 70, 56, 52, 50, 55, 69]⟩ : ByteArray).data.toList) = .tuple #[.agg z16, .int .i64 5] := by
  unfold unhexRes
  rw [if_neg]
  intro h
  have := h.2 0 (by omega)
  revert this
  decide
theorem ex_00 : unhexRes (asc (⟨#[48, 48]⟩ : ByteArray).data.toList) = .tuple #[.agg z16, .int .i64 5] := by
  unfold unhexRes
  rw [if_neg]
  intro h
  have := h.1
  revert this
  decide

abbrev bd (n : Int) (r : ByteArray) : Array Value := #[.int .i64 1732584193, .int .i64 4023233417, .int .i64 2562383102, .int .i64 271733878, .int .i64 n, .string r]
theorem xmore_small (r x y : ByteArray) (hy : r ++ x = y) (hs : y.size < 64) (w : World) (hK : HasK w) :
    Calls Tryd.prog 22 #[.agg (bd r.size r), .string x] w fun e w' => e = .returned (.tuple #[.agg (bd y.size y), .int .i64 0]) ∧ Below w.heap.size w w' := by
  have hsz : y.size = r.size + x.size := by rw [← hy, ByteArray.size_append]
  have h := xmore_yes Md.begin begin_ok r.size (by omega) r (by omega) x (by omega) w hK
  have ht : changed Md.begin (asc r.data.toList ++ asc x.data.toList) = Md.begin := changed_short _ _ (by rw [List.length_append, asc_length, asc_length]; omega)
  have hq : (r ++ x).extract (r.size + x.size - (r.size + x.size) % 64) (r.size + x.size) = y := by
    rw [hy, ← hsz, Nat.mod_eq_of_lt hs, Nat.sub_self]; exact ByteArray.extract_zero_size
  rw [moreRes_short _ _ _ _ (by omega) _ ht _ hq] at h
  refine h.mono fun e w' hh => ⟨hh.1.trans ?_, hh.2⟩
  rw [hsz]; rfl
theorem xdone_small (y : ByteArray) (hs : y.size < 64) (w : World) (hK : HasK w) :
    Calls Tryd.prog 23 #[.agg (bd y.size y)] w fun e w' => e = .returned (.tuple #[.agg (ob (md5 (asc y.data.toList))), .int .i64 0]) ∧ Below w.heap.size w w' := by
  have h := xdone_yes Md.begin begin_ok y.size (by omega) y (by omega) w hK
  rw [show md5 (asc y.data.toList) = told (changed Md.begin (ended (asc y.data.toList) y.size)) by rw [md5, asc_length]]
  exact h
theorem md5_len (l : List Nat) : (md5 l).length = 16 := told_length _
theorem md5_lt (l : List Nat) (i : Nat) : (md5 l).getD i 0 < 256 := told_lt _ i

set_option maxRecDepth 100000 in
set_option maxHeartbeats 1000000 in
theorem works_any (w : World) (hK : HasK w) :
    Calls Tryd.prog 10 #[] w fun e w' => e = .returned (.bool true) ∧ Below w.heap.size w w' := by
  have HK := Lib.hid hK
  have hp := hK.pos
  clear hK
  go_enter Tryd.func10, Tryd.ntmps10
  go_wp2_with fail
  refine (is_yes _ _ (by decide) ex_0 _ HK.out).mono ?_
  rintro e w1 ⟨rfl, hB1⟩
  have HK1 : Hid (HasK w1) := HK.out.below hB1 hp
  go_wp2_with fail
  refine (is_yes _ _ (by decide) ex_1 _ HK1.out).mono ?_
  rintro e w2 ⟨rfl, hB2⟩
  have hB2 := hB1.trans (hB2.mono hB1.size)
  have HK2 : Hid (HasK w2) := HK.out.below hB2 hp
  go_wp2_with fail
  refine (is_yes _ _ (by decide) ex_2 _ HK2.out).mono ?_
  rintro e w3 ⟨rfl, hB3⟩
  have hB3 := hB2.trans (hB3.mono hB2.size)
  have HK3 : Hid (HasK w3) := HK.out.below hB3 hp
  go_wp2_with fail
  refine (is_yes _ _ (by decide) ex_3 _ HK3.out).mono ?_
  rintro e w4 ⟨rfl, hB4⟩
  have hB4 := hB3.trans (hB4.mono hB3.size)
  have HK4 : Hid (HasK w4) := HK.out.below hB4 hp
  clear hB1 hB2 hB3
  go_wp2_with fail
  refine (new_any _).mono ?_
  rintro e w5 ⟨rfl, hB5⟩
  have hB5 := hB4.trans (hB5.mono hB4.size)
  have HK5 : Hid (HasK w5) := HK.out.below hB5 hp
  go_wp2_with fail
  refine (xmore_small ⟨#[]⟩ ⟨#[97, 98]⟩ ⟨#[97, 98]⟩ rfl (by decide) _ HK5.out).mono ?_
  rintro e w6 ⟨rfl, hB6⟩
  have hB6 := hB5.trans (hB6.mono hB5.size)
  have HK6 : Hid (∀ o, HasK (w6.alloc o)) := fun o => HK.out.below (hB6.alloc hB6.size o) hp
  have HB6 := Lib.hid hB6
  clear hB4 hB5 hB6
  go_wp2_with fail
  refine (xmore_small ⟨#[97, 98]⟩ ⟨#[99]⟩ ⟨#[97, 98, 99]⟩ rfl (by decide) _ (HK6.out _)).mono ?_
  rintro e w7 ⟨rfl, hB7⟩
  have HD7 : Hid (w7.heap[w6.heap.size]? = some (.cells (bd 2 ⟨#[97, 98]⟩) 41 (0, 0))) := Lib.hid ((hB7.block _ (by simp)).trans (heap_alloc_at _ _ _ rfl))
  have HB7 : Hid (Below w.heap.size w w7) := Lib.hid ((HB6.out.alloc HB6.out.size _).trans (hB7.mono (by have := HB6.out.size; simp; omega)))
  have HB7' : Hid (Below w.heap.size w (w7.setRow w6.heap.size (bd 3 ⟨#[97, 98, 99]⟩))) := Lib.hid (below_setRow HB7.out HB6.out.size _)
  have HD7' : Hid ((w7.setRow w6.heap.size (bd 3 ⟨#[97, 98, 99]⟩)).heap[w6.heap.size]? = some (.cells (bd 3 ⟨#[97, 98, 99]⟩) 41 (0, 0))) := Lib.hid (setRow_heap _ _ _ _ _ _ HD7.out)
  clear hB7
  go_wp2_with (first | ((with_reducible refine wpList_store_row rfl 41 _ _ rfl (w6.heap.size) (bd 3 ⟨#[97, 98, 99]⟩) ?_ ?_ 41 _ HD7.out 6 ?_ ?_ ?_ ?_ ?_); (next => rfl); (next => rfl); (next => kernel_rfl); (next => rfl); (next => rfl); (next => rfl)) | ((with_reducible refine wpList_load_whole rfl 41 _ rfl (w6.heap.size) ?_ 41 _ _ HD7'.out Tryd.underlying41 ?_ 6 ?_ ?_ ?_); (next => rfl); (next => rfl); (next => kernel_rfl); (next => rfl)))
  generalize w7.setRow w6.heap.size (bd 3 ⟨#[97, 98, 99]⟩) = w8 at *
  refine (xdone_small ⟨#[97, 98, 99]⟩ (by decide) _ (HK.out.below HB7'.out hp)).mono ?_
  rintro e w9 ⟨rfl, hB9⟩
  have HB9 : Hid (Below w.heap.size w w9) := Lib.hid (HB7'.out.trans (hB9.mono HB7'.out.size))
  have hex := ex_2
  have hlen := md5_len (asc (⟨#[97, 98, 99]⟩ : ByteArray).data.toList)
  have hlt := md5_lt (asc (⟨#[97, 98, 99]⟩ : ByteArray).data.toList)
  generalize md5 (asc (⟨#[97, 98, 99]⟩ : ByteArray).data.toList) = l at *
  have HL := Lib.hid hlen
  have HLT := Lib.hid hlt
  have HEX := Lib.hid hex
  have HA := Lib.hid (heap_alloc_at w9 (.cells (ob l) 28) w9.heap.size rfl)
  clear hB9 hex hlen hlt
  go_wp2_with (first | ((with_reducible refine wpList_store_new rfl 28 _ _ rfl _ (ob l) ?_ ?_ 16 ?_ ?_ ?_ ?_ ?_); (next => rfl); (next => rfl); (next => kernel_rfl); (next => rfl); (next => exact ob_size16 _ HL.out); (next => exact ob_one _)) | ((with_reducible refine wpList_load_wanted ?_ 28 _ rfl (w9.heap.size) ?_ 28 (ob l) _ HA.out Tryd.underlying28 ?_ 16 ?_ ?_ ?_); (next => rfl); (next => rfl); (next => rfl); (next => kernel_rfl); (next => exact ob_size16 _ HL.out)))
  refine (hex_any l HL.out HLT.out _).mono ?_
  rintro e w10 ⟨rfl, hB10⟩
  rw [HEX.out]
  have HB10 : Hid (Below w.heap.size w w10) := Lib.hid ((HB9.out.alloc HB9.out.size _).trans (hB10.mono (by have := HB9.out.size; simp; omega)))
  clear hB10
  go_wp2_with fail
  refine (fails_yes _ (by decide) ex_up _).mono ?_
  rintro e w11 ⟨rfl, hB11⟩
  have HB11 : Hid (Below w.heap.size w w11) := Lib.hid (HB10.out.trans (hB11.mono HB10.out.size))
  clear hB11
  go_wp2_with fail
  refine (fails_yes _ (by decide) ex_00 _).mono ?_
  rintro e w12 ⟨rfl, hB12⟩
  have HB12 : Hid (Below w.heap.size w w12) := Lib.hid (HB11.out.trans (hB12.mono HB11.out.size))
  clear hB12
  go_wp2_with fail
  refine (check_no 0 0 0 0 1 ⟨#[]⟩ (by decide) _).mono ?_
  rintro e w13 ⟨rfl, hB13⟩
  have HB13 : Hid (Below w.heap.size w w13) := Lib.hid (HB12.out.trans (hB13.mono HB12.out.size))
  clear hB13
  go_wp2_with fail
  go_ret
  exact ⟨rfl, HB13.out⟩
end Go.Proofs.YtfhddcjepgjfnaaDoor
