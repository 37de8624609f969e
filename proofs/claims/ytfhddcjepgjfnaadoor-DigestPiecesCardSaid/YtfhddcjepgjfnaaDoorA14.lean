/- The walk of the reference's change by a block. -/
import Derived.Test.YtfhddcjepgjfnaaDoorA13
namespace Go.Proofs.YtfhddcjepgjfnaaDoor
open Go.RowKit Md

abbrev KI : Array Value := #[.int .i64 3614090360, .int .i64 3905402710, .int .i64 606105819, .int .i64 3250441966, .int .i64 4118548399, .int .i64 1200080426, .int .i64 2821735955, .int .i64 4249261313, .int .i64 1770035416, .int .i64 2336552879, .int .i64 4294925233, .int .i64 2304563134, .int .i64 1804603682, .int .i64 4254626195, .int .i64 2792965006, .int .i64 1236535329, .int .i64 4129170786, .int .i64 3225465664, .int .i64 643717713, .int .i64 3921069994, .int .i64 3593408605, .int .i64 38016083, .int .i64 3634488961, .int .i64 3889429448, .int .i64 568446438, .int .i64 3275163606, .int .i64 4107603335, .int .i64 1163531501, .int .i64 2850285829, .int .i64 4243563512, .int .i64 1735328473, .int .i64 2368359562, .int .i64 4294588738, .int .i64 2272392833, .int .i64 1839030562, .int .i64 4259657740, .int .i64 2763975236, .int .i64 1272893353, .int .i64 4139469664, .int .i64 3200236656, .int .i64 681279174, .int .i64 3936430074, .int .i64 3572445317, .int .i64 76029189, .int .i64 3654602809, .int .i64 3873151461, .int .i64 530742520, .int .i64 3299628645, .int .i64 4096336452, .int .i64 1126891415, .int .i64 2878612391, .int .i64 4237533241, .int .i64 1700485571, .int .i64 2399980690, .int .i64 4293915773, .int .i64 2240044497, .int .i64 1873313359, .int .i64 4264355552, .int .i64 2734768916, .int .i64 1309151649, .int .i64 4149444226, .int .i64 3174756917, .int .i64 718787259, .int .i64 3951481745]
theorem KI_eq : KI = (Md.K.map fun k : Nat => Value.int .i64 k).toArray := by kernel_rfl
theorem K_len : Md.K.length = 64 := by kernel_rfl
theorem KI_get (i : Nat) (h : i < 64) : KI[i]? = some (.int .i64 (Md.K.getD i 0 : Nat)) := by
  rw [KI_eq]
  have h2 : i < Md.K.length := by rw [K_len]; exact h
  simp [h2]
abbrev RI : Array Value := #[.int .i64 7, .int .i64 12, .int .i64 17, .int .i64 22, .int .i64 5, .int .i64 9, .int .i64 14, .int .i64 20, .int .i64 4, .int .i64 11, .int .i64 16, .int .i64 23, .int .i64 6, .int .i64 10, .int .i64 15, .int .i64 21]
theorem RI_get (n j : Nat) (hn : n < 4) (hj : j < 4) : RI[n * 4 + j]? = some (.int .i64 ((R.getD n []).getD j 0 : Nat)) := by
  have : ∀ n j : Fin 4, RI[n.val * 4 + j.val]? = some (.int .i64 ((R.getD n.val []).getD j.val 0 : Nat)) := by
    intro n j
    match n, j with
    | 0, 0 | 0, 1 | 0, 2 | 0, 3 | 1, 0 | 1, 1 | 1, 2 | 1, 3 | 2, 0 | 2, 1 | 2, 2 | 2, 3 | 3, 0 | 3, 1 | 3, 2 | 3, 3 => rfl
  exact this ⟨n, hn⟩ ⟨j, hj⟩
set_option maxRecDepth 100000 in
set_option maxHeartbeats 1000000 in
theorem constants_any (w : World) :
    Calls Tryd.prog 66 #[] w fun e w' => e = .returned (.agg KI) ∧ Below w.heap.size w w' := by
  go_enter Tryd.func66, Tryd.ntmps66
  go_wp2_with ((with_reducible refine wpList_store_new rfl 112 _ _ rfl _ KI ?_ ?_ 64 ?_ ?_ ?_ ?_ ?_); (next => rfl); (next => rfl); (next => kernel_rfl); (next => rfl); (next => rfl); (next => rfl))
  go_wp2
  exact bodyPost_ret (v := .agg KI) (results_cell_row rfl _ _ w.heap.size 112 KI (0, 0) (.array 64 3) rfl (heap_alloc_new _ _) Tryd.underlying112 rfl (by kernel_rfl)) rfl ⟨rfl, (Below.refl _ _).alloc (Nat.le_refl _) _⟩

def FXI (l : List Nat) (k : Nat) : Array Value := ((List.range 16).map fun j => Value.int .i64 (xk l k j : Nat)).toArray
theorem FXI_set (l : List Nat) (k : Nat) : (FXI l k).setIfInBounds (k / 4) (.int .i64 (xk l (k+1) (k/4) : Nat)) = FXI l (k + 1) := by
  apply Array.ext_getElem?
  intro j
  simp only [FXI, Array.getElem?_setIfInBounds, List.getElem?_toArray, List.getElem?_map, List.size_toArray, List.length_map, List.length_range]
  by_cases hj : k / 4 = j
  · subst hj
    by_cases h16 : k / 4 < 16
    · simp [h16]
    · simp [h16]
  · simp only [hj, if_false]
    by_cases h16 : j < 16
    · simp [h16, xk_succ_other l k j (fun e => hj e.symm)]
    · simp [h16]
theorem FXI_zero (l : List Nat) : FXI l 0 = #[.int .i64 0, .int .i64 0, .int .i64 0, .int .i64 0, .int .i64 0, .int .i64 0, .int .i64 0, .int .i64 0, .int .i64 0, .int .i64 0, .int .i64 0, .int .i64 0, .int .i64 0, .int .i64 0, .int .i64 0, .int .i64 0] := by
  unfold FXI
  simp only [xk_zero]; rfl
theorem FXI_get (l : List Nat) (k j : Nat) (h : j < 16) : (FXI l k)[j]? = some (.int .i64 (xk l k j : Nat)) := by
  simp [FXI, h]
theorem add_step (x o t : Nat) (hx : x < 256 ^ t) (ho : o < 256) (ht : t < 4) :
    wrap64 ((x : Int) + wrap64 (wrap64 (o : Int) * 2 ^ (8 * t))) = ((x + o * 256 ^ t : Nat) : Int) := by
  have hp : (256 : Nat) ^ t = 2 ^ (8 * t) := by rw [Nat.pow_mul]
  have hle : (256 : Nat) ^ t ≤ 256 ^ 3 := Nat.pow_le_pow_right (by decide) (by omega)
  have h1 : o * 256 ^ t ≤ 255 * 256 ^ t := Nat.mul_le_mul_right _ (by omega)
  have e2 : ((o : Int) * 2 ^ (8 * t)) = ((o * 256 ^ t : Nat) : Int) := by rw [hp]; simp
  rw [wrap64_nat (a := o) (by omega), e2, wrap64_nat (a := o * 256 ^ t) (by omega), ← Int.natCast_add]
  exact wrap64_nat (by omega)
theorem sumI_eq (x : Nat → Nat) (s : St) (i : Nat) :
    (((s.a : Nat) : Int) + (mix (i / 16) s.b s.c s.d : Nat) + (Md.K.getD i 0 : Nat) + (x (wd (i / 16) i) : Nat)) % 4294967296 = (sumOf x s i : Nat) := by
  unfold sumOf
  omega
theorem K_lt (i : Nat) : Md.K.getD i 0 < 4294967296 := by
  by_cases h : i < 64
  · have : ∀ i : Fin 64, Md.K.getD i.val 0 < 4294967296 := by decide +kernel
    exact this ⟨i, h⟩
  · have h2 : ¬ i < Md.K.length := by rw [K_len]; exact h
    simp [h2]

set_option maxRecDepth 100000 in
set_option maxHeartbeats 4000000 in
theorem blockI_any (a b c d : Nat) (ha : a < 4294967296) (hb : b < 4294967296) (hc : c < 4294967296) (hd : d < 4294967296) (s : ByteArray) (hs : s.size = 64) (w : World) :
    Calls Tryd.prog 56 #[.agg #[.int .i64 a, .int .i64 b, .int .i64 c, .int .i64 d], .string s] w fun e w' => e = .returned (.agg #[.int .i64 (blk ⟨a, b, c, d⟩ (asc s.data.toList)).a, .int .i64 (blk ⟨a, b, c, d⟩ (asc s.data.toList)).b, .int .i64 (blk ⟨a, b, c, d⟩ (asc s.data.toList)).c, .int .i64 (blk ⟨a, b, c, d⟩ (asc s.data.toList)).d]) ∧ Below w.heap.size w w' := by
  have OK : Hid (St.ok ⟨a, b, c, d⟩) := Lib.hid ⟨ha, hb, hc, hd⟩
  have Hs := Lib.hid hs
  clear hs
  obtain ⟨l, hl⟩ : ∃ l : List Nat, asc s.data.toList = l := ⟨_, rfl⟩
  have Hl := Lib.hid hl
  have HL : Hid (∀ i, l.getD i 0 < 256) := Lib.hid (hl ▸ asc_lt _)
  clear hl
  go_enter Tryd.func56, Tryd.ntmps56
  go_wp2
  go_loopw [6] (fun x6 wr => ∃ k : Nat, k ≤ 64 ∧ x6 = .int .i64 k ∧ Below (w.heap.size + 2) ((w.alloc (.cells #[.int .i64 a, .int .i64 b, .int .i64 c, .int .i64 d] 39)).alloc (.cells #[.int .i64 0, .int .i64 0, .int .i64 0, .int .i64 0] 39)) wr ∧ wr.heap[w.heap.size + 2]? = some (.cells (FXI l k) 110 (0, 0))) (fun i _ => 64 - (intOf i).toNat)
  case atStart => exact ⟨0, by omega, rfl, (Below.refl _ _).alloc (by simp) _, by rw [FXI_zero]; exact heap_alloc_at _ _ _ (by simp)⟩
  case round =>
    obtain ⟨k, hk, rfl, hB, hh⟩ := hrel
    by_cases hlt : k < 64
    · have hcell := (cell_of_row _ _ (k / 4) _ _ _ hh).trans (FXI_get l k (k / 4) (by omega))
      have hfr := frozen_of_row wr (w.heap.size + 2) (k / 4) _ _ hh
      have hsz : k < s.size := by rw [Hs.out]; exact hlt
      have hst := add_step (xk l k (k / 4)) s[k].toNat (k % 4) (by rw [xk_at]; exact le_lt l HL.out _ _) (s[k].toNat_lt) (by omega)
      have hst' : wrap64 ((xk l k (k / 4) : Int) + wrap64 (wrap64 (s[k].toNat : Int) * 2 ^ (8 * (k % 4)))) = (xk l (k + 1) (k / 4) : Nat) := by
        rw [hst, xk_succ_at, xk_at, le, ← asc_at s k hsz, Hl.out, show 4 * (k / 4) + k % 4 = k by omega]
      clear hst
      have hxl := xk_lt l HL.out (k + 1) (k / 4)
      have Hh := Lib.hid hh
      have Hst := Lib.hid hst'
      clear hh hst'
      go_wp2
      go_region
      go_wp2
      go_roundw
      case rel => exact ⟨k + 1, by omega, by go_num, (hB.setCell (by simp) _).drew, by rw [Hst.out, heap_drew, heap_setCell_same _ _ _ _ _ _ Hh.out, FXI_set]⟩
      case measure => simp [intOf]; omega
    · obtain rfl : k = 64 := by omega
      clear hlt
      have h2 : w.heap.size + 2 < wr.heap.size := (Array.getElem?_eq_some_iff.1 hh).1
      have Hh := Lib.hid hh
      clear hh
      go_wp2_with ((with_reducible refine wpList_store_new rfl 111 _ _ rfl _ RI ?_ ?_ 16 ?_ ?_ ?_ ?_ ?_); (next => rfl); (next => rfl); (next => kernel_rfl); (next => rfl); (next => rfl); (next => rfl))
      obtain ⟨W, hWe⟩ : ∃ W, W = wr.alloc (.cells RI 111) := ⟨_, rfl⟩
      have hBW : Below wr.heap.size wr W := hWe ▸ (Below.refl _ _).alloc (Nat.le_refl _) _
      have hWsz : wr.heap.size < W.heap.size := by rw [hWe]; simp
      have hrow : Hid (W.heap[wr.heap.size]? = some (.cells RI 111 (0, 0))) := Lib.hid (hWe ▸ heap_alloc_new _ _)
      rw [← hWe]
      clear hWe
      have hB' : Below (w.heap.size + 2) ((w.alloc (.cells #[.int .i64 a, .int .i64 b, .int .i64 c, .int .i64 d] 39)).alloc (.cells #[.int .i64 0, .int .i64 0, .int .i64 0, .int .i64 0] 39)) W := hB.trans (hBW.mono (by omega))
      have hBB : Below w.heap.size w W := (((Below.refl _ w).alloc (Nat.le_refl _) _).alloc (by simp) _).trans (hB'.mono (by omega))
      have hX : Hid (W.heap[w.heap.size + 2]? = some (.cells (FXI l 64) 110 (0, 0))) := Lib.hid ((hBW.block _ h2).trans Hh.out)
      have hW : Hid (W.heap[w.heap.size]? = some (.cells #[.int .i64 a, .int .i64 b, .int .i64 c, .int .i64 d] 39 (0, 0))) := Lib.hid ((hB'.block _ (by omega)).trans (by rw [heap_alloc_lt _ _ _ (by simp)]; exact heap_alloc_at _ _ _ rfl))
      have hE : Hid (W.heap[w.heap.size + 1]? = some (.cells #[.int .i64 0, .int .i64 0, .int .i64 0, .int .i64 0] 39 (0, 0))) := Lib.hid ((hB'.block _ (by omega)).trans (heap_alloc_at _ _ _ (by simp)))
      clear hB Hh hB'
      have hc0 : W.cell? ⟨w.heap.size, 0, none⟩ = some (.int .i64 a) := cell_of_row _ _ 0 _ _ _ hW.out
      have hc1 : W.cell? ⟨w.heap.size, 1, none⟩ = some (.int .i64 b) := cell_of_row _ _ 1 _ _ _ hW.out
      have hc2 : W.cell? ⟨w.heap.size, 2, none⟩ = some (.int .i64 c) := cell_of_row _ _ 2 _ _ _ hW.out
      have hc3 : W.cell? ⟨w.heap.size, 3, none⟩ = some (.int .i64 d) := cell_of_row _ _ 3 _ _ _ hW.out
      go_quiet (fail)
      go_wp2_with fail
      refine (constants_any _).mono ?_
      rintro e w1 ⟨rfl, hB1⟩
      have hB1' : Below W.heap.size W w1 := undrewN hB1
      clear hc0 hc1 hc2 hc3
      go_wp2_with ((with_reducible refine wpList_store_new rfl 112 _ _ rfl _ KI ?_ ?_ 64 ?_ ?_ ?_ ?_ ?_); (next => rfl); (next => rfl); (next => kernel_rfl); (next => rfl); (next => rfl); (next => rfl))
      obtain ⟨V, hVe⟩ : ∃ V, V = w1.alloc (.cells KI 112) := ⟨_, rfl⟩
      have hBV : Below w1.heap.size w1 V := hVe ▸ (Below.refl _ _).alloc (Nat.le_refl _) _
      have hVsz : w1.heap.size < V.heap.size := by rw [hVe]; simp
      have hKI : Hid (V.heap[w1.heap.size]? = some (.cells KI 112 (0, 0))) := Lib.hid (hVe ▸ heap_alloc_new _ _)
      rw [← hVe]
      clear hVe
      have hW1sz := hB1'.size
      have hBWV : Below W.heap.size W V := hB1'.trans (hBV.mono hW1sz)
      have hBBV : Below w.heap.size w V := hBB.trans (hBWV.mono (by omega))
      have hX2 : Hid (V.heap[w.heap.size + 2]? = some (.cells (FXI l 64) 110 (0, 0))) := Lib.hid ((hBWV.block _ (by omega)).trans hX.out)
      have hrow2 : Hid (V.heap[wr.heap.size]? = some (.cells RI 111 (0, 0))) := Lib.hid ((hBWV.block _ (by omega)).trans hrow.out)
      have hW2 : Hid (V.heap[w.heap.size]? = some (.cells #[.int .i64 a, .int .i64 b, .int .i64 c, .int .i64 d] 39 (0, 0))) := Lib.hid ((hBWV.block _ (by omega)).trans hW.out)
      have hE2 : Hid (V.heap[w.heap.size + 1]? = some (.cells #[.int .i64 0, .int .i64 0, .int .i64 0, .int .i64 0] 39 (0, 0))) := Lib.hid ((hBWV.block _ (by omega)).trans hE.out)
      clear hX hrow hW hE hBB hB1 hB1' hBV hBW Hs hBWV
      generalize wr.heap.size = g at *
      go_loopw [8, 9, 10, 11, 13] (fun x8 x9 x10 x11 x13 wi => ∃ i : Nat, i ≤ 64 ∧ x13 = .int .i64 i ∧ Below V.heap.size V wi ∧
          x8 = .int .i64 (steps (X l) ⟨a, b, c, d⟩ i).a ∧ x9 = .int .i64 (steps (X l) ⟨a, b, c, d⟩ i).b ∧ x10 = .int .i64 (steps (X l) ⟨a, b, c, d⟩ i).c ∧ x11 = .int .i64 (steps (X l) ⟨a, b, c, d⟩ i).d) (fun _ _ _ _ i _ => 64 - (intOf i).toNat)
      case atStart => exact ⟨0, by omega, rfl, Below.refl _ _, rfl, rfl, rfl, rfl⟩
      case round =>
        obtain ⟨i, hi, rfl, hB2, rfl, rfl, rfl, rfl⟩ := hrel
        by_cases hlt : i < 64
        · as_aux_lemma =>
          have hw := wd_lt (i / 16) i rfl
          have hok := steps_ok (X l) ⟨a, b, c, d⟩ OK.out i
          have hKk := K_lt i
          have hXl : X l (wd (i / 16) i) < 4294967296 := by rw [← xk_end l _ hw]; exact xk_lt l HL.out _ _
          have hml := mix_lt (i / 16) hok.2.1 hok.2.2.1 hok.2.2.2
          obtain ⟨Wi, hWi⟩ : ∃ Wi, Wi = wr := ⟨_, rfl⟩
          rw [← hWi] at hB2 ⊢
          clear hWi
          have hK3 : Wi.cell? ⟨w1.heap.size, i, none⟩ = some (.int .i64 (Md.K.getD i 0 : Nat)) := by
            rw [hB2.cell (p := ⟨w1.heap.size, i, none⟩) hVsz, cell_of_row _ _ _ _ _ _ hKI.out, KI_get i hlt]
          have hx3 : Wi.cell? ⟨w.heap.size + 1 + 1, wd (i / 16) i, none⟩ = some (.int .i64 (X l (wd (i / 16) i) : Nat)) := by
            rw [hB2.cell (p := ⟨w.heap.size + 1 + 1, wd (i / 16) i, none⟩) (by show w.heap.size + 1 + 1 < _; omega), cell_of_row _ _ _ _ _ _ hX2.out, FXI_get l 64 _ hw, xk_end l _ hw]
          have hr3 : Wi.cell? ⟨g, i / 16 * 4 + i % 4, none⟩ = some (.int .i64 ((R.getD (i / 16) []).getD (i % 4) 0 : Nat)) := by
            rw [hB2.cell (p := ⟨g, i / 16 * 4 + i % 4, none⟩) (by show g < _; omega), cell_of_row _ _ _ _ _ _ hrow2.out, RI_get _ _ (by omega) (by omega)]
          have hst1 := steps_succ (X l) ⟨a, b, c, d⟩ i
          generalize steps (X l) ⟨a, b, c, d⟩ i = t at *
          obtain ⟨ta, tb, tc, td⟩ := t
          obtain ⟨hta, htb, htc, htd⟩ := hok
          have hrr := rr_lt (i / 16) (i % 4)
          have hS := sumI_eq (X l) ⟨ta, tb, tc, td⟩ i
          rw [step_eq (X l) ⟨ta, tb, tc, td⟩ i _ rfl] at hst1
          generalize (R.getD (i / 16) []).getD (i % 4) 0 = rr at *
          generalize Md.K.getD i 0 = kk at *
          generalize X l (wd (i / 16) i) = xx at *
          have hsl : sumOf (X l) ⟨ta, tb, tc, td⟩ i < 4294967296 := Nat.mod_lt _ (by decide)
          generalize sumOf (X l) ⟨ta, tb, tc, td⟩ i = sm at *
          have Hst1 := Lib.hid hst1
          have HS := Lib.hid hS
          clear hst1 hS
          go_wp2_with fail
          refine (stepI_any i tb tc td (by omega) htb htc htd _).mono ?_
          rintro e w2 ⟨rfl, rfl⟩
          go_wp2_with fail
          go_quiet (fail)
          go_wp2_with fail
          have HS2 : ((ta : Int) + (mix (i / 16) tb tc td : Nat) + kk + xx) % 4294967296 = sm := HS.out
          rw [HS2]
          refine (rotI_any sm rr hsl hrr _).mono ?_
          rintro e w2 ⟨rfl, hB3⟩
          have hB3' : Below Wi.heap.size Wi w2 := undrewN hB3
          have hrot := rot_lt sm rr hsl
          clear hK3 hx3 hr3
          go_wp2_with fail
          go_roundw
          case rel => exact ⟨i + 1, by omega, by go_num, hB2.trans (hB3'.mono hB2.size), by rw [Hst1.out], by rw [Hst1.out]; exact int_eq (by simp), by rw [Hst1.out], by rw [Hst1.out]⟩
          case measure => simp [intOf]; omega
        · as_aux_lemma =>
          obtain rfl : i = 64 := by omega
          clear hlt
          obtain ⟨Wi, hWi⟩ : ∃ Wi, Wi = wr := ⟨_, rfl⟩
          rw [← hWi] at hB2 ⊢
          clear hWi
          have hB3 : ∀ j, Wi.cell? ⟨w.heap.size, j, none⟩ = (#[.int .i64 a, .int .i64 b, .int .i64 c, .int .i64 d] : Array Value)[j]? := fun j => by
            rw [hB2.cell (p := ⟨w.heap.size, j, none⟩) (by show w.heap.size < _; omega), cell_of_row _ _ _ _ _ _ hW2.out]
          have c0 := hB3 0
          have c1 := hB3 1
          have c2 := hB3 2
          have c3 := hB3 3
          simp at c0 c1 c2 c3
          have hrow : Hid (Wi.heap[w.heap.size + 1]? = some (.cells #[.int .i64 0, .int .i64 0, .int .i64 0, .int .i64 0] 39 (0, 0))) := Lib.hid ((hB2.block _ (by omega)).trans hE2.out)
          clear hB3
          have hfin : blk ⟨a, b, c, d⟩ l = add4 ⟨a, b, c, d⟩ (steps (X l) ⟨a, b, c, d⟩ 64) := rfl
          have hok := steps_ok (X l) ⟨a, b, c, d⟩ OK.out 64
          generalize steps (X l) ⟨a, b, c, d⟩ 64 = st at *
          obtain ⟨ta, tb, tc, td⟩ := st
          have hta : ta < 4294967296 := hok.1
          have htb : tb < 4294967296 := hok.2.1
          have htc : tc < 4294967296 := hok.2.2.1
          have htd : td < 4294967296 := hok.2.2.2
          clear hok
          have Hfin := Lib.hid hfin
          clear hfin
          go_wp2_with (refine wpList_store_row rfl 39 _ _ rfl (w.heap.size + 1) #[.int .i64 (((a : Int) + ta) % 4294967296), .int .i64 (((b : Int) + tb) % 4294967296), .int .i64 (((c : Int) + tc) % 4294967296), .int .i64 (((d : Int) + td) % 4294967296)] rfl rfl 39 _ hrow.out 4 (by kernel_rfl) rfl rfl rfl ?_)
          refine bodyPost_ret (v := .agg #[.int .i64 (blk ⟨a, b, c, d⟩ l).a, .int .i64 (blk ⟨a, b, c, d⟩ l).b, .int .i64 (blk ⟨a, b, c, d⟩ l).c, .int .i64 (blk ⟨a, b, c, d⟩ l).d]) ?_ rfl ⟨by rw [Hl.out], ?_⟩
          · rw [Hfin.out]
            refine (results_cell_row rfl _ _ (w.heap.size + 1) 39 _ (0, 0) (.array 4 3) rfl (setRow_heap _ _ _ _ _ _ hrow.out) Tryd.underlying39 rfl (by kernel_rfl)).trans ?_
            simp [add4]
          · exact below_setRow (hBBV.trans (hB2.mono (by omega))) (by omega) _
end Go.Proofs.YtfhddcjepgjfnaaDoor
