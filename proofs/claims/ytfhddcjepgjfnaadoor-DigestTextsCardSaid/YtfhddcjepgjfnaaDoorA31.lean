/- The walk of the statement DigestTexts. -/
import Derived.Test.YtfhddcjepgjfnaaDoorA30
import Derived.Test.YtfhddcjepgjfnaaDoorA22
import Derived.Test.YtfhddcjepgjfnaaDoorA23
import Derived.Deep.RegionWith
namespace Go.Proofs.YtfhddcjepgjfnaaDoor
open Go.RowKit Md

theorem unhex_both (s : ByteArray) (hs : s.size ≤ 140737488355328) : ∃ (l : List Nat) (c : Int), l.length = 16 ∧
    (∀ w, Calls Tryd.prog 15 #[.string s] w fun e w' => e = .returned (.tuple #[.agg (ob l), .int .i64 c]) ∧ Below w.heap.size w w') ∧
    (∀ w, Calls Tryd.prog 16 #[.string s] w fun e w' => e = .returned (.tuple #[.agg (ob l), .int .i64 c]) ∧ Below w.heap.size w w') := by
  have h1 := unhex_any s hs
  have h2 := unhexI_any s hs
  unfold unhexRes at h1 h2
  split at h1
  · rename_i h
    rw [if_pos h] at h2
    exact ⟨_, 0, unhexL_length _, h1, h2⟩
  · rename_i h
    rw [if_neg h] at h2
    exact ⟨List.replicate 16 0, 5, rfl, h1, h2⟩

set_option maxRecDepth 100000 in
set_option maxHeartbeats 1000000 in
theorem texts_any (l : List Nat) (hl : l.length = 16) (hb : ∀ i, l.getD i 0 < 256) (t : ByteArray) (A C : Nat) (hA : A < 256) (hC : C < 256) (ht : t.size ≤ 140737488355328) (w : World) (hK : HasK w) :
    Calls Tryd.prog 4 #[.agg (ob l), .string t, .int .u8 A, .int .u8 C] w fun e w' => e = .returned (.bool true) ∧ Below w.heap.size w w' := by
  have HK := Lib.hid hK
  have hp := hK.pos
  have HL := Lib.hid hl
  have HLT := Lib.hid hb
  clear hK hl hb
  go_enter Tryd.func4, Tryd.ntmps4
  go_wp2_with fail
  refine (works_any _ (HK.out.below ((Below.refl _ _).alloc (Nat.le_refl _) _) hp)).mono ?_
  rintro e w1 ⟨rfl, hB1⟩
  have HC : Hid (w1.heap[w.heap.size]? = some (.cells (ob l) 28 (0, 0))) := Lib.hid ((hB1.block _ (by simp)).trans (heap_alloc_at _ _ _ rfl))
  have HB1 : Hid (Below w.heap.size w w1) := Lib.hid (bwith ((Below.refl _ _).alloc (Nat.le_refl _) _) hB1)
  clear hB1
  go_wp2_with ((with_reducible refine wpList_load_whole rfl 28 _ rfl (w.heap.size) ?_ 28 (ob l) _ HC.out Tryd.underlying28 ?_ 16 ?_ ?_ ?_); (next => rfl); (next => rfl); (next => kernel_rfl); (next => exact ob_size16 _ HL.out))
  refine (hexI_any l HL.out HLT.out _).mono ?_
  rintro e w2 ⟨rfl, hB2⟩
  have hlt1 : w.heap.size < w1.heap.size := (Array.getElem?_eq_some_iff.1 HC.out).1
  have HC2 : Hid (w2.heap[w.heap.size]? = some (.cells (ob l) 28 (0, 0))) := Lib.hid ((hB2.block _ hlt1).trans HC.out)
  have HB2 : Hid (Below w.heap.size w w2) := Lib.hid (bwith HB1.out hB2)
  have hqs : (ByteArray.mk (hexOf l).toArray).size = 32 := by
    show (hexOf l).toArray.size = 32
    rw [List.size_toArray, hexOf_length, HL.out]
  obtain ⟨q, hq⟩ : ∃ q : ByteArray, ⟨(hexOf l).toArray⟩ = q := ⟨_, rfl⟩
  rw [hq] at hqs
  rw [hq]
  have Hq := Lib.hid hq
  have Hqs := Lib.hid hqs
  have hq1 : q.size ≤ 32 := by omega
  have hq2 : 32 ≤ q.size := by omega
  have hy : min (t.size : Int) 40 = ((min t.size 40 : Nat) : Int) := by omega
  have hy1 : min t.size 40 ≤ 40 := by omega
  have hy2 : min t.size 40 ≤ t.size := by omega
  generalize min t.size 40 = y at *
  have hy3 : (y : Int) ≤ t.size := by omega
  have hy4 : (0 : Int) ≤ y := by omega
  clear hB2 hq hqs
  go_wp2_with fail
  have hk : (A : Int) % 32 = ((A % 32 : Nat) : Int) := by simp
  rw [hk]
  have hk32 : A % 32 < 32 := Nat.mod_lt _ (by decide)
  generalize A % 32 = k at *
  clear hk
  have hk1 : (0 : Int) ≤ k := by omega
  have hk2 : (k : Int) ≤ q.size := by omega
  have hk3 : IntKind.i64.wrap ((k : Int) + 1) = (k : Int) + 1 := IntWalk.i64_in _ (by omega)
  have hk4 : (0 : Int) ≤ (k : Int) + 1 := by omega
  have hk5 : (k : Int) + 1 ≤ q.size := by omega
  have hk6 : ((k : Int) + 1).toNat = k + 1 := by omega
  have hx1 : (q.extract 0 k).size ≤ 32 := by rw [ByteArray.size_extract]; omega
  have hx2 : (q.extract (k + 1) q.size).size ≤ 32 := by rw [ByteArray.size_extract]; omega
  have hcB : (C : Int) = ((UInt8.ofNat C).toNat : Nat) := by rw [UInt8.toNat_ofNat', Nat.mod_eq_of_lt hC]
  have hcv := conv1_new (UInt8.ofNat C) C hcB w2
  have hcvD : (convert 34 9 (.slice (some ⟨w2.heap.size, 0, none⟩) 1 1)).run Tryd.prog (w2.alloc (.cells #[.int .u8 C] 5)).drew = .ok (.string (txt [UInt8.ofNat C])) (w2.alloc (.cells #[.int .u8 C] 5)).drew := by
    rw [hcB]
    exact conv1 _ _ _ (cell_of_row _ _ _ _ _ _ (heap_alloc_at w2 _ _ rfl))
  have hx3 : (txt [UInt8.ofNat C]).size = 1 := rfl
  obtain ⟨u, hu⟩ : ∃ u, txt [UInt8.ofNat C] = u := ⟨_, rfl⟩
  rw [hu] at hcv hcvD hx3
  have hx4 : u.size ≤ 1 := by omega
  have Hx3 := Lib.hid hx3
  clear hcB hu hx3
  have hrefl : Below w2.heap.size w2 w2 := Below.refl _ _
  have hreflD : Below w2.heap.size w2 w2.drew := (Below.refl _ _).drew
  have had1 : ∀ W, (Op.stringOp .add (q.extract 0 k) u).run Tryd.prog W = .ok (.string (q.extract 0 k ++ u)) W := fun W => run_string_add W _ _ (by omega) (by omega)
  have hx5 : (q.extract 0 k ++ u).size ≤ 40 := by rw [ByteArray.size_append]; omega
  have had2 : ∀ W, (Op.stringOp .add (q.extract 0 k ++ u) (q.extract (k + 1) q.size)).run Tryd.prog W = .ok (.string (q.extract 0 k ++ u ++ q.extract (k + 1) q.size)) W := fun W => run_string_add W _ _ (by omega) (by omega)
  have hx6 : (q.extract 0 k ++ u ++ q.extract (k + 1) q.size).size ≤ 100 := by rw [ByteArray.size_append]; omega
  have hx7 : (t.extract 0 y).size ≤ 100 := by rw [ByteArray.size_extract]; omega
  have hx8 : (q.extract k q.size).size ≤ 100 := by rw [ByteArray.size_extract]; omega
  go_cut [45, 46] (fun x45 x46 W => ∃ s0 s1 s2 s3 : ByteArray, s0.size ≤ 100 ∧ s1.size ≤ 100 ∧ s2.size ≤ 100 ∧ s3.size ≤ 100 ∧ x45 = .agg #[.string s0, .string s1, .string s2, .string s3] ∧ x46 = .int .i64 0 ∧ Below w2.heap.size w2 W)
  case first =>
    go_region_with (fail)
    all_goals go_wp2_with fail
    all_goals go_meet
    all_goals exact ⟨_, _, _, _, hx7, by omega, hx6, hx8, rfl, rfl, by first | with_reducible exact (hrefl.alloc hrefl.size _).drew | with_reducible exact hreflD.alloc hreflD.size _ | with_reducible exact hrefl.alloc hrefl.size _⟩
  case rest =>
    obtain ⟨s0, s1, s2, s3, hs0, hs1, hs2, hs3, rfl, rfl, hB3⟩ := hcut
    have hlt2 : w.heap.size < w2.heap.size := (Array.getElem?_eq_some_iff.1 HC2.out).1
    have HC3 : Hid (wc.heap[w.heap.size]? = some (.cells (ob l) 28 (0, 0))) := Lib.hid ((hB3.block _ hlt2).trans HC2.out)
    have HB3 : Hid (Below w.heap.size w wc) := Lib.hid (bwith HB2.out hB3)
    clear hB3 hcv hcvD had1 had2 hk3 hk6
    go_wp2_with fail
    go_loopw [46] (fun x46 W => ∃ k : Nat, k ≤ 4 ∧ x46 = .int .i64 k ∧ Below w.heap.size w W ∧ W.heap[w.heap.size]? = some (.cells (ob l) 28 (0, 0))) (fun x46 _ => 4 - (intOf x46).toNat)
    case atStart => exact ⟨0, by omega, rfl, HB3.out, HC3.out⟩
    case round =>
      obtain ⟨k, hk, rfl, hB3, hC3⟩ := hrel
      by_cases hlt2 : k < 4
      · obtain ⟨s, hs, hss⟩ : ∃ s : ByteArray, (#[Value.string s0, .string s1, .string s2, .string s3] : Array Value)[k]? = some (.string s) ∧ s.size ≤ 100 := by
          match k, hlt2 with
          | 0, _ => exact ⟨s0, rfl, hs0⟩
          | 1, _ => exact ⟨s1, rfl, hs1⟩
          | 2, _ => exact ⟨s2, rfl, hs2⟩
          | 3, _ => exact ⟨s3, rfl, hs3⟩
        have hix := fun W => run_index_one (P := Tryd.prog) (n := 4) Tryd.underlying35 Tryd.isAgg9 Tryd.sizeOf9 #[Value.string s0, .string s1, .string s2, .string s3] k (.string s) hlt2 hs W
        obtain ⟨m, c, hm, h15, h16⟩ := unhex_both s (by omega)
        have H15 := Lib.hid h15
        have H16 := Lib.hid h16
        have HM := Lib.hid hm
        have HB3 := Lib.hid hB3
        have HC3 := Lib.hid hC3
        clear h15 h16 hm hB3 hC3 hs
        go_wp2_with fail
        refine (H15.out _).mono ?_
        rintro e w3 ⟨rfl, hB4⟩
        have hlt3 : w.heap.size < wr.heap.size := (Array.getElem?_eq_some_iff.1 HC3.out).1
        have HC4 : Hid ((w3.alloc (.cells (ob m) 28)).heap[w.heap.size]? = some (.cells (ob l) 28 (0, 0))) := Lib.hid ((heap_alloc_lt _ _ _ (Nat.lt_of_lt_of_le hlt3 hB4.size)).trans ((hB4.block _ hlt3).trans HC3.out))
        have HB4 : Hid (Below w.heap.size w (w3.alloc (.cells (ob m) 28))) := Lib.hid (bwith (bwith HB3.out hB4) ((Below.refl _ _).alloc (Nat.le_refl _) _))
        have HA : Hid ((w3.alloc (.cells (ob m) 28)).heap[w3.heap.size]? = some (.cells (ob m) 28 (0, 0))) := Lib.hid (heap_alloc_at _ _ _ rfl)
        clear hB4
        go_wp2_with ((with_reducible refine wpList_store_new rfl 28 _ _ rfl _ (ob m) ?_ ?_ 16 ?_ ?_ ?_ ?_ ?_); (next => rfl); (next => rfl); (next => kernel_rfl); (next => rfl); (next => exact ob_size16 _ HM.out); (next => exact ob_one _))
        refine (H16.out _).mono ?_
        rintro e w4 ⟨rfl, hB5⟩
        have hlt4 : w.heap.size < (w3.alloc (.cells (ob m) 28)).heap.size := (Array.getElem?_eq_some_iff.1 HC4.out).1
        have HC5 : Hid ((w4.alloc (.cells (ob m) 28)).heap[w.heap.size]? = some (.cells (ob l) 28 (0, 0))) := Lib.hid ((heap_alloc_lt _ _ _ (Nat.lt_of_lt_of_le hlt4 hB5.size)).trans ((hB5.block _ hlt4).trans HC4.out))
        have HA1 : Hid ((w4.alloc (.cells (ob m) 28)).heap[w3.heap.size]? = some (.cells (ob m) 28 (0, 0))) := Lib.hid ((heap_alloc_lt _ _ _ (Nat.lt_of_lt_of_le (by simp) hB5.size)).trans ((hB5.block _ (by simp)).trans HA.out))
        have HA2 : Hid ((w4.alloc (.cells (ob m) 28)).heap[w4.heap.size]? = some (.cells (ob m) 28 (0, 0))) := Lib.hid (heap_alloc_at _ _ _ rfl)
        have HB5 : Hid (Below w.heap.size w (w4.alloc (.cells (ob m) 28))) := Lib.hid (bwith (bwith HB4.out hB5) ((Below.refl _ _).alloc (Nat.le_refl _) _))
        have he := eq28 m m HM.out HM.out
        rw [show (m == m) = true by simp] at he
        clear hB5
        go_wp2_with (first | ((with_reducible refine wpList_store_new rfl 28 _ _ rfl _ (ob m) ?_ ?_ 16 ?_ ?_ ?_ ?_ ?_); (next => rfl); (next => rfl); (next => kernel_rfl); (next => rfl); (next => exact ob_size16 _ HM.out); (next => exact ob_one _)) | ((with_reducible refine wpList_load_whole rfl 28 _ rfl (w3.heap.size) ?_ 28 (ob m) _ HA1.out Tryd.underlying28 ?_ 16 ?_ ?_ ?_); (next => rfl); (next => rfl); (next => kernel_rfl); (next => exact ob_size16 _ HM.out)) | ((with_reducible refine wpList_load_whole rfl 28 _ rfl (w4.heap.size) ?_ 28 (ob m) _ HA2.out Tryd.underlying28 ?_ 16 ?_ ?_ ?_); (next => rfl); (next => rfl); (next => kernel_rfl); (next => exact ob_size16 _ HM.out)))
        go_roundw
        case rel => exact ⟨k + 1, by omega, by go_num, HB5.out, HC5.out⟩
        case measure => simp [intOf]; omega
      · obtain rfl : k = 4 := by omega
        have HB3 := Lib.hid hB3
        have HC3 := Lib.hid hC3
        clear hlt2 hk hB3 hC3
        go_wp2_with ((with_reducible refine wpList_load_whole rfl 28 _ rfl (w.heap.size) ?_ 28 (ob l) _ HC3.out Tryd.underlying28 ?_ 16 ?_ ?_ ?_); (next => rfl); (next => rfl); (next => kernel_rfl); (next => exact ob_size16 _ HL.out))
        refine (hex_any l HL.out HLT.out _).mono ?_
        rintro e w5 ⟨rfl, hB6⟩
        rw [Hq.out]
        have HB6 : Hid (Below w.heap.size w w5) := Lib.hid (bwith HB3.out hB6)
        clear hB6
        go_wp2_with fail
        go_ret
        exact ⟨rfl, HB6.out⟩
end Go.Proofs.YtfhddcjepgjfnaaDoor
