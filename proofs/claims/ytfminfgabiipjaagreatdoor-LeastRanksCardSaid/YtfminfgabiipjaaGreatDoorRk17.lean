/- Rk, part 17: Frac14 Frac15 Frac16 -/
import Derived.Deep.RegionHeld3
import Derived.Test.YtfminfgabiipjaaGreatDoorRk0
import Derived.Test.YtfminfgabiipjaaGreatDoorRk16
section
namespace Go.Proofs.YtfminfgabiipjaaGreatDoor.frac
open Go.RowKit
theorem int_setRow {W : World} {m : Value} {b : Bool} {z : Int} {g : Nat} {cs cs' : Array Value} {t : TypeId} {fz : Nat × Nat} (h : IntAt W (.agg #[m, .bool b]) z) (hg : W.heap[g]? = some (.cells cs t fz)) (hne : ∀ x ∈ cs.toList, ∀ d, x ≠ .int .u32 d) : IntAt (W.setRow g cs') (.agg #[m, .bool b]) z := by
 obtain ⟨m', h1, h2⟩ := h
 exact ⟨m', h1, mag_setRow h2 hg hne⟩
theorem int_shape {W : World} {v : Value} {z : Int} (h : IntAt W v z) : ∃ (a : Option Addr) (n c : Nat) (b : Bool), v = .agg #[.slice a n c, .bool b] := by
 obtain ⟨m, rfl, am, bm, om, cm, n, M, rfl, Im, hMx⟩ := h
 exact ⟨am, n, cm, _, rfl⟩
theorem set_keep (W : World) (g k : Nat) (v : Value) : W.grownBy (W.setCell ⟨g, k, none⟩ v) (some g) :=
 ⟨rfl, rfl, rfl, by simp [World.setCell], fun i _ hr => Below.heap_setCell _ _ _ _ (fun e => hr (by rw [e]))⟩
theorem row_set2 {W : World} {g : Nat} {t : TypeId} (h : W.heap[g]? = some (.cells #[.slice none 0 0, .bool false] t (0, 0))) (a : Option Addr) (n c : Nat) (b : Bool) :
  ((W.setCell ⟨g, 0, none⟩ (.slice a n c)).setCell ⟨g, 1, none⟩ (.bool b)).heap[g]? = some (.cells #[.slice a n c, .bool b] t (0, 0)) :=
 heap_setCell_same _ g 1 _ t _ (heap_setCell_same _ g 0 _ t _ h)
theorem int_set2 {W : World} {m : Value} {b0 : Bool} {z : Int} {g : Nat} {t : TypeId} (hi : IntAt W (.agg #[m, .bool b0]) z) (h : W.heap[g]? = some (.cells #[.slice none 0 0, .bool false] t (0, 0))) (a : Option Addr) (n c : Nat) (b : Bool) :
  IntAt ((W.setCell ⟨g, 0, none⟩ (.slice a n c)).setCell ⟨g, 1, none⟩ (.bool b)) (.agg #[m, .bool b0]) z := by
 obtain ⟨m', h1, h2⟩ := hi
 refine ⟨m', h1, ?_⟩
 refine mag_keep (mag_keep h2 (set_keep W g 0 _) h zero_ne) (set_keep _ g 1 _) (heap_setCell_same W g 0 _ t _ h) ?_
 intro x hx d
 rcases List.mem_cons.1 (show x ∈ [Value.slice a n c, Value.bool false] from hx) with rfl | hx
 ·intro h; cases h
 ·rw [List.mem_singleton.1 hx]; intro h; cases h
theorem sg_mul (x y : Int) : (if (decide (x < 0) != decide (y < 0)) = true then -((x.natAbs * y.natAbs : Nat) : Int) else ((x.natAbs * y.natAbs : Nat) : Int)) = x * y := by
 rw [← Int.natAbs_mul]
 by_cases hx : x < 0
 ·by_cases hy : y < 0
  ·rw [decide_eq_true hx, decide_eq_true hy, if_neg (by decide)]
   have := Int.mul_pos_of_neg_of_neg hx hy; omega
  ·rw [decide_eq_true hx, decide_eq_false hy, if_pos (by decide)]
   have := Int.mul_nonpos_of_nonpos_of_nonneg (Int.le_of_lt hx) (Int.not_lt.1 hy); omega
 ·by_cases hy : y < 0
  ·rw [decide_eq_false hx, decide_eq_true hy, if_pos (by decide)]
   have := Int.mul_nonpos_of_nonneg_of_nonpos (Int.not_lt.1 hx) (Int.le_of_lt hy); omega
  ·rw [decide_eq_false hx, decide_eq_false hy, if_neg (by decide)]
   have := Int.mul_nonneg (Int.not_lt.1 hx) (Int.not_lt.1 hy); omega
theorem sg_scale (x : Int) (y : Nat) : (if decide (x < 0) = true then -((x.natAbs * y : Nat) : Int) else ((x.natAbs * y : Nat) : Int)) = x * (y : Int) := by
 by_cases hx : x < 0
 ·rw [decide_eq_true hx, if_pos rfl, Int.natCast_mul, ← Int.neg_mul]; congr 1; omega
 ·rw [decide_eq_false hx, if_neg (by decide), Int.natCast_mul]; congr 1; omega
set_option maxRecDepth 100000 in
set_option maxHeartbeats 1000000 in
theorem opposite_any (z : Int) (v : Value) (w : World) (hv : IntAt w v z) :
  Calls Tryz.prog 138 #[v] w fun e w' => ∃ u, e = .returned u ∧ Below w.heap.size w w' ∧ IntAt w' u (-z) := by
 obtain ⟨m, rfl, hm⟩ := hv
 have hs := fun (W : World) (h : Below w.heap.size w W) => signed_any z.natAbs (!decide (z < 0)) m W (hm.below h)
 have hz : (if (!decide (z < 0)) = true then -(z.natAbs : Int) else (z.natAbs : Int)) = -z := by
  by_cases h : z < 0
  ·rw [decide_eq_true h, if_neg (by decide)]; omega
  ·rw [decide_eq_false h, if_pos (by decide)]; omega
 rw [hz] at hs
 have HS := qH hs
 generalize decide (z < 0) = b at *
 obtain ⟨am, bm, om, cm, n, M, rfl, Im, hMx⟩ := hm
 clear hs hz Im hMx
 obtain ⟨W1, hW1⟩ : ∃ W1, W1 = (w.alloc (.cells #[.slice am n cm, .bool b] 136)).alloc (.cells #[.slice none 0 0, .bool false] 136) := ⟨_, rfl⟩
 have hb1 : Below w.heap.size w W1 := hW1 ▸ (qB.alloc qN _).alloc (by simp) _
 have hr1 : W1.heap[w.heap.size + 1]? = some (.cells #[.slice none 0 0, .bool false] 136 (0, 0)) := by rw [hW1]; exact qM _ _ _ (by simp)
 go_enter Tryz.func138, Tryz.ntmps138
 go_wp2_with fail
 rw [← hW1]
 refine (HS.out _ hb1).mono ?_
 rintro e w2 ⟨u, rfl, hb9, hu9⟩
 have hrow9 := (hb9.block (w.heap.size + 1) (qG hr1).1).trans hr1
 have hbw9 : Below w.heap.size w w2 := hb1.trans (hb9.mono hb1.size)
 clear hW1 hb1 hr1
 obtain ⟨a9, n9, c9, b9, rfl⟩ := int_shape hu9
 have hvs := int_setRow (cs' := #[.slice a9 n9 c9, .bool b9]) hu9 hrow9 zero_ne
 have HR := qH (qA hrow9 (qA hbw9 (below_setRow hbw9 (show w.heap.size ≤ w.heap.size + 1 by omega) #[.slice a9 n9 c9, .bool b9])))
 have HV := qH hvs
 clear hrow9 hbw9 hvs hb9 hu9
 go_wp2_with ((with_reducible refine wpList_store_row rfl 136 _ _ rfl (w.heap.size + 1) #[.slice a9 n9 c9, .bool b9] ?_ ?_ 136 _ HR.out.1 2 ?_ ?_ ?_ ?_ ?_); (next => rfl); (next => rfl); (next => kernel_rfl); (next => rfl); (next => rfl); (next => rfl))
 exact bodyPost_ret (v := .agg #[.slice a9 n9 c9, .bool b9]) (results_row rfl _ _ (w.heap.size + 1) 136 _ _ rfl (setRow_heap _ _ _ _ _ _ HR.out.1) Tryz.underlying136 rfl 2 (by kernel_rfl) rfl) rfl ⟨_, rfl, HR.out.2.2, HV.out⟩
end Go.Proofs.YtfminfgabiipjaaGreatDoor.frac
end
section
namespace Go.Proofs.YtfminfgabiipjaaGreatDoor.frac
open Go.RowKit
theorem sg_div (x y : Int) : (if (decide (x < 0) != decide (y < 0)) = true then -((x.natAbs / y.natAbs : Nat) : Int) else ((x.natAbs / y.natAbs : Nat) : Int)) = x.tdiv y := by
 obtain ⟨a, rfl | rfl⟩ := Int.eq_nat_or_neg x
 ·obtain ⟨b, rfl | rfl⟩ := Int.eq_nat_or_neg y
  ·rw [decide_eq_false (by omega), decide_eq_false (by omega), if_neg (by decide)]; rfl
  ·rw [decide_eq_false (by omega : ¬ (a : Int) < 0), Int.natAbs_neg, Int.tdiv_neg]
   by_cases hb : b = 0
   ·subst hb; simp
   ·rw [decide_eq_true (by omega), if_pos (by decide)]; rfl
 ·obtain ⟨b, rfl | rfl⟩ := Int.eq_nat_or_neg y
  ·rw [decide_eq_false (by omega : ¬ (b : Int) < 0), Int.natAbs_neg, Int.neg_tdiv]
   by_cases ha : a = 0
   ·subst ha; simp
   ·rw [decide_eq_true (by omega), if_pos (by decide)]; rfl
  ·rw [Int.natAbs_neg, Int.natAbs_neg, Int.tdiv_neg, Int.neg_tdiv, Int.neg_neg]
   by_cases ha : a = 0
   ·subst ha
    by_cases hb : b = 0
    ·subst hb; simp
    ·simp
   ·by_cases hb : b = 0
    ·subst hb; simp
    ·rw [decide_eq_true (by omega), decide_eq_true (by omega), if_neg (by decide)]; rfl
theorem sg_plus {x y : Int} (h : decide (x < 0) = decide (y < 0)) : (if decide (x < 0) = true then -((x.natAbs + y.natAbs : Nat) : Int) else ((x.natAbs + y.natAbs : Nat) : Int)) = x + y := by
 by_cases hx : x < 0
 ·rw [decide_eq_true hx] at h ⊢
  have hy := of_decide_eq_true h.symm
  rw [if_pos rfl]; omega
 ·rw [decide_eq_false hx] at h ⊢
  have hy := of_decide_eq_false h.symm
  rw [if_neg (by decide)]; omega
theorem sg_minus {x y : Int} (h : ¬ decide (x < 0) = decide (y < 0)) (hle : y.natAbs ≤ x.natAbs) : (if decide (x < 0) = true then -((x.natAbs - y.natAbs : Nat) : Int) else ((x.natAbs - y.natAbs : Nat) : Int)) = x + y := by
 by_cases hx : x < 0
 ·have hy : ¬ y < 0 := fun hy => h (by rw [decide_eq_true hx, decide_eq_true hy])
  rw [decide_eq_true hx, if_pos rfl]; omega
 ·have hy : y < 0 := by
   by_cases hy : y < 0
   ·exact hy
   ·exact absurd (by rw [decide_eq_false hx, decide_eq_false hy]) h
  rw [decide_eq_false hx, if_neg (by decide)]; omega
set_option maxRecDepth 100000 in
set_option maxHeartbeats 1000000 in
theorem scaled_any (x : Int) (y K J : Nat) (hK : K + J ≤ 274877906944) (v o : Value) (w : World) (hv : IntAt w v x) (ho : MagAt w o y) (hx : Fit x.natAbs K) (hy : Fit y J) :
  Calls Tryz.prog 136 #[v, o] w fun e w' => ∃ u, e = .returned u ∧ Below w.heap.size w w' ∧ IntAt w' u (x * (y : Int)) := by
 obtain ⟨m, rfl, hm⟩ := hv
 have ht := fun (W : World) (h : Below w.heap.size w W) => times_any x.natAbs y K J hK m o W (hm.below h) (ho.below h) hx hy
 have hs := fun (W : World) (p : Value) (h : MagAt W p (x.natAbs * y)) => signed_any (x.natAbs * y) (decide (x < 0)) p W h
 rw [sg_scale] at hs
 generalize decide (x < 0) = b0 at *
 obtain ⟨a0, bm, om, c0, n0, M, rfl, Im, hMx⟩ := hm
 obtain ⟨a1, bo, oo, c1, n1, O, rfl, Io, hOx⟩ := ho
 have HT := qH ht
 have HS := qH hs
 clear ht hs Im hMx Io hOx hx hy hK
 obtain ⟨W1, hW1⟩ : ∃ W1, W1 = (w.alloc (.cells #[.slice a0 n0 c0, .bool b0] 136)).alloc (.cells #[.slice none 0 0, .bool false] 136) := ⟨_, rfl⟩
 have hb1 : Below w.heap.size w W1 := hW1 ▸ (qB.alloc qN _).alloc (by simp only [World.size_alloc]; omega) _
 have hr0 : W1.heap[w.heap.size]? = some (.cells #[.slice a0 n0 c0, .bool b0] 136 (0, 0)) := by rw [hW1, qL _ _ _ (by simp only [World.size_alloc]; omega)]; exact qM _ _ _ (by simp)
 have hr : W1.heap[w.heap.size + 1]? = some (.cells #[.slice none 0 0, .bool false] 136 (0, 0)) := by rw [hW1]; exact qM _ _ _ (by simp)
 have l2 : w.heap.size + 1 < W1.heap.size := (qG hr).1
 have C00 : ∀ W, Below (w.heap.size + 1) W1 W → W.cell? ⟨w.heap.size, 0, none⟩ = some (.slice a0 n0 c0) := fun W h => (h.cell (p := ⟨w.heap.size, 0, none⟩) (by show w.heap.size < _; omega)).trans (cell_of_row _ _ 0 _ _ _ hr0)
 have C01 : ∀ W, Below (w.heap.size + 1) W1 W → W.cell? ⟨w.heap.size, 1, none⟩ = some (.bool b0) := fun W h => (h.cell (p := ⟨w.heap.size, 1, none⟩) (by show w.heap.size < _; omega)).trans (cell_of_row _ _ 1 _ _ _ hr0)
 have hrefl : Below (w.heap.size + 1) W1 W1 := Below.refl _ _
 have HR := qH (qA hb1 hr)
 have Hl2 := qH l2
 clear hr0 hr hb1
 go_enter Tryz.func136, Tryz.ntmps136
 go_wp2_with fail
 rw [← hW1]
 clear hW1
 have hstD : Below (w.heap.size + 1) W1 W1.drew := hrefl.drew
 go_region_held3 (fun W => Below (w.heap.size + 1) W1 W) (first | with_reducible exact hrefl | with_reducible exact hstD | with_reducible exact HB3 | with_reducible exact HB2 | ((iterate 2 refine Below.setCell ?_ (by exact Nat.le_refl _) _); exact HB3)) (first | (go_at_call 150; refine (HT.out _ (HR.out.1.trans (hstD.mono (by omega)))).mono ?_; rintro e w2 ⟨p2, rfl, hb2, hp2⟩; have HB2 : Below (w.heap.size + 1) W1 w2 := hstD.trans (hb2.mono (Nat.le_of_lt (Nat.lt_of_lt_of_le Hl2.out hrefl.size))); have HP2 := qH (qA hp2 ((hb2.block _ (Nat.lt_of_lt_of_le Hl2.out hrefl.size)).trans HR.out.2)); clear hb2 hp2) | (go_at_call 149; refine (HS.out _ _ HP2.out.1).mono ?_; rintro e w3 ⟨p3, rfl, hb3, hp3⟩; have HB3 : Below (w.heap.size + 1) W1 w3 := HB2.trans (hb3.mono (Nat.le_trans (Nat.le_of_lt Hl2.out) HB2.size)); obtain ⟨a9, n9, c9, b9, rfl⟩ := int_shape hp3; have hz3 := (hb3.block _ (Nat.lt_of_lt_of_le Hl2.out HB2.size)).trans HP2.out.2; have e0 := cell_of_row w3 _ 0 _ _ _ hz3; have e1 := cell_of_row w3 _ 1 _ _ _ hz3; have f0 := frozen_of_row w3 _ 0 _ _ hz3; have f1 := frozen_of_row w3 _ 1 _ _ hz3; have HP3 := qH (qA hp3 hz3); clear hb3 hp3 hz3))
 go_wp2_with fail
 exact bodyPost_ret (v := .agg #[.slice a9 n9 c9, .bool b9]) (results_row rfl _ _ (w.heap.size + 1) 136 _ _ rfl (row_set2 HP3.out.2 a9 n9 c9 b9) Tryz.underlying136 rfl 2 (by kernel_rfl) rfl) rfl ⟨_, rfl, HR.out.1.trans (((HB3.setCell (by exact Nat.le_refl _) _).setCell (by exact Nat.le_refl _) _).mono (by omega)), int_set2 HP3.out.1 HP3.out.2 a9 n9 c9 b9⟩
set_option maxRecDepth 100000 in
set_option maxHeartbeats 1000000 in
theorem sum_any (x y : Int) (K : Nat) (hK : K ≤ 274877906944) (v u : Value) (w : World) (hv : IntAt w v x) (hu : IntAt w u y) (hx : Fit x.natAbs K) (hy : Fit y.natAbs K) :
  Calls Tryz.prog 137 #[v, u] w fun e w' => ∃ u, e = .returned u ∧ Below w.heap.size w w' ∧ IntAt w' u (x + y) := by
 obtain ⟨m, rfl, hm⟩ := hv
 obtain ⟨o, rfl, ho⟩ := hu
 by_cases hsg : decide (x < 0) = decide (y < 0)
 ·have ht := fun (W : World) (h : Below w.heap.size w W) => plus_any x.natAbs y.natAbs K hK m o W (hm.below h) (ho.below h) hx hy
  have hs := fun (W : World) (p : Value) (h : MagAt W p (x.natAbs + y.natAbs)) => signed_any (x.natAbs + y.natAbs) (decide (x < 0)) p W h
  rw [sg_plus hsg] at hs
  rw [← hsg]
  generalize decide (x < 0) = b0 at *
  obtain ⟨b1, hb1⟩ : ∃ b1, b1 = b0 := ⟨_, rfl⟩
  obtain ⟨a0, bm, om, c0, n0, M, rfl, Im, hMx⟩ := hm
  obtain ⟨a1, bo, oo, c1, n1, O, rfl, Io, hOx⟩ := ho
  have HT := qH ht
  have HS := qH hs
  clear ht hs Im hMx Io hOx hx hy hK hsg
  rw [show (.agg #[.slice a1 n1 c1, .bool b0] : Value) = .agg #[.slice a1 n1 c1, .bool b1] by rw [hb1]]
  have heq : (b0 == b1) = true := by rw [hb1]; exact beq_self_eq_true b0
  clear hb1
  obtain ⟨W1, hW1⟩ : ∃ W1, W1 = ((w.alloc (.cells #[.slice a0 n0 c0, .bool b0] 136)).alloc (.cells #[.slice a1 n1 c1, .bool b1] 136)).alloc (.cells #[.slice none 0 0, .bool false] 136) := ⟨_, rfl⟩
  have hb1 : Below w.heap.size w W1 := hW1 ▸ ((qB.alloc qN _).alloc (by simp only [World.size_alloc]; omega) _).alloc (by simp only [World.size_alloc]; omega) _
  have hr0 : W1.heap[w.heap.size]? = some (.cells #[.slice a0 n0 c0, .bool b0] 136 (0, 0)) := by rw [hW1, qL _ _ _ (by simp only [World.size_alloc]; omega), qL _ _ _ (by simp only [World.size_alloc]; omega)]; exact qM _ _ _ (by simp)
  have hr1 : W1.heap[w.heap.size + 1]? = some (.cells #[.slice a1 n1 c1, .bool b1] 136 (0, 0)) := by rw [hW1, qL _ _ _ (by simp only [World.size_alloc]; omega)]; exact qM _ _ _ (by simp)
  have hr : W1.heap[w.heap.size + 1 + 1]? = some (.cells #[.slice none 0 0, .bool false] 136 (0, 0)) := by rw [hW1]; exact qM _ _ _ (by simp)
  have l2 : w.heap.size + 1 + 1 < W1.heap.size := (qG hr).1
  have C00 : ∀ W, Below (w.heap.size + 1 + 1) W1 W → W.cell? ⟨w.heap.size, 0, none⟩ = some (.slice a0 n0 c0) := fun W h => (h.cell (p := ⟨w.heap.size, 0, none⟩) (by show w.heap.size < _; omega)).trans (cell_of_row _ _ 0 _ _ _ hr0)
  have C01 : ∀ W, Below (w.heap.size + 1 + 1) W1 W → W.cell? ⟨w.heap.size, 1, none⟩ = some (.bool b0) := fun W h => (h.cell (p := ⟨w.heap.size, 1, none⟩) (by show w.heap.size < _; omega)).trans (cell_of_row _ _ 1 _ _ _ hr0)
  have C10 : ∀ W, Below (w.heap.size + 1 + 1) W1 W → W.cell? ⟨w.heap.size + 1, 0, none⟩ = some (.slice a1 n1 c1) := fun W h => (h.cell (p := ⟨w.heap.size + 1, 0, none⟩) (by show w.heap.size + 1 < _; omega)).trans (cell_of_row _ _ 0 _ _ _ hr1)
  have C11 : ∀ W, Below (w.heap.size + 1 + 1) W1 W → W.cell? ⟨w.heap.size + 1, 1, none⟩ = some (.bool b1) := fun W h => (h.cell (p := ⟨w.heap.size + 1, 1, none⟩) (by show w.heap.size + 1 < _; omega)).trans (cell_of_row _ _ 1 _ _ _ hr1)
  have hrefl : Below (w.heap.size + 1 + 1) W1 W1 := Below.refl _ _
  have HR := qH (qA hb1 hr)
  have Hl2 := qH l2
  clear hr0 hr1 hr hb1
  go_enter Tryz.func137, Tryz.ntmps137
  go_wp2_with fail
  rw [← hW1]
  clear hW1
  have hstD : Below (w.heap.size + 1 + 1) W1 W1.drew := hrefl.drew
  go_region_held3 (fun W => Below (w.heap.size + 1 + 1) W1 W) (first | with_reducible exact hrefl | with_reducible exact hstD | with_reducible exact HB3 | with_reducible exact HB2 | ((iterate 2 refine Below.setCell ?_ (by exact Nat.le_refl _) _); exact HB3)) (first | (go_at_call 172; refine (HT.out _ (HR.out.1.trans (hstD.mono (by omega)))).mono ?_; rintro e w2 ⟨p2, rfl, hb2, hp2⟩; have HB2 : Below (w.heap.size + 1 + 1) W1 w2 := hstD.trans (hb2.mono (Nat.le_of_lt (Nat.lt_of_lt_of_le Hl2.out hrefl.size))); have HP2 := qH (qA hp2 ((hb2.block _ (Nat.lt_of_lt_of_le Hl2.out hrefl.size)).trans HR.out.2)); clear hb2 hp2) | (go_at_call 149; refine (HS.out _ _ HP2.out.1).mono ?_; rintro e w3 ⟨p3, rfl, hb3, hp3⟩; have HB3 : Below (w.heap.size + 1 + 1) W1 w3 := HB2.trans (hb3.mono (Nat.le_trans (Nat.le_of_lt Hl2.out) HB2.size)); obtain ⟨a9, n9, c9, b9, rfl⟩ := int_shape hp3; have hz3 := (hb3.block _ (Nat.lt_of_lt_of_le Hl2.out HB2.size)).trans HP2.out.2; have e0 := cell_of_row w3 _ 0 _ _ _ hz3; have e1 := cell_of_row w3 _ 1 _ _ _ hz3; have f0 := frozen_of_row w3 _ 0 _ _ hz3; have f1 := frozen_of_row w3 _ 1 _ _ hz3; have HP3 := qH (qA hp3 hz3); clear hb3 hp3 hz3))
  go_wp2_with fail
  exact bodyPost_ret (v := .agg #[.slice a9 n9 c9, .bool b9]) (results_row rfl _ _ (w.heap.size + 1 + 1) 136 _ _ rfl (row_set2 HP3.out.2 a9 n9 c9 b9) Tryz.underlying136 rfl 2 (by kernel_rfl) rfl) rfl ⟨_, rfl, HR.out.1.trans (((HB3.setCell (by exact Nat.le_refl _) _).setCell (by exact Nat.le_refl _) _).mono (by omega)), int_set2 HP3.out.1 HP3.out.2 a9 n9 c9 b9⟩
 ·have hc := fun (W : World) (h : Below w.heap.size w W) => compare_any x.natAbs y.natAbs K hK m o W (hm.below h) (ho.below h) hx hy
  have hneq : (decide (x < 0) == decide (y < 0)) = false := beq_eq_false_iff_ne.2 hsg
  by_cases hlt : x.natAbs < y.natAbs
  ·have ht := fun (W : World) (h : Below w.heap.size w W) => minus_any y.natAbs x.natAbs K hK o m W (ho.below h) (hm.below h) hy (Nat.le_of_lt hlt)
   have hs := fun (W : World) (p : Value) (h : MagAt W p (y.natAbs - x.natAbs)) => signed_any (y.natAbs - x.natAbs) (decide (y < 0)) p W h
   rw [sg_minus (fun e => hsg e.symm) (Nat.le_of_lt hlt), Int.add_comm] at hs
   rw [show cmp3 (x.natAbs : Int) (y.natAbs : Int) = -1 by unfold cmp3; rw [if_pos (by omega)]] at hc
   generalize decide (x < 0) = b0 at *
   generalize decide (y < 0) = b1 at *
   obtain ⟨a0, bm, om, c0, n0, M, rfl, Im, hMx⟩ := hm
   obtain ⟨a1, bo, oo, c1, n1, O, rfl, Io, hOx⟩ := ho
   have HT := qH ht
   have HS := qH hs
   have HC := qH hc
   clear ht hs hc Im hMx Io hOx hx hy hK hsg hlt
   obtain ⟨W1, hW1⟩ : ∃ W1, W1 = ((w.alloc (.cells #[.slice a0 n0 c0, .bool b0] 136)).alloc (.cells #[.slice a1 n1 c1, .bool b1] 136)).alloc (.cells #[.slice none 0 0, .bool false] 136) := ⟨_, rfl⟩
   have hb1 : Below w.heap.size w W1 := hW1 ▸ ((qB.alloc qN _).alloc (by simp only [World.size_alloc]; omega) _).alloc (by simp only [World.size_alloc]; omega) _
   have hr0 : W1.heap[w.heap.size]? = some (.cells #[.slice a0 n0 c0, .bool b0] 136 (0, 0)) := by rw [hW1, qL _ _ _ (by simp only [World.size_alloc]; omega), qL _ _ _ (by simp only [World.size_alloc]; omega)]; exact qM _ _ _ (by simp)
   have hr1 : W1.heap[w.heap.size + 1]? = some (.cells #[.slice a1 n1 c1, .bool b1] 136 (0, 0)) := by rw [hW1, qL _ _ _ (by simp only [World.size_alloc]; omega)]; exact qM _ _ _ (by simp)
   have hr : W1.heap[w.heap.size + 1 + 1]? = some (.cells #[.slice none 0 0, .bool false] 136 (0, 0)) := by rw [hW1]; exact qM _ _ _ (by simp)
   have l2 : w.heap.size + 1 + 1 < W1.heap.size := (qG hr).1
   have C00 : ∀ W, Below (w.heap.size + 1 + 1) W1 W → W.cell? ⟨w.heap.size, 0, none⟩ = some (.slice a0 n0 c0) := fun W h => (h.cell (p := ⟨w.heap.size, 0, none⟩) (by show w.heap.size < _; omega)).trans (cell_of_row _ _ 0 _ _ _ hr0)
   have C01 : ∀ W, Below (w.heap.size + 1 + 1) W1 W → W.cell? ⟨w.heap.size, 1, none⟩ = some (.bool b0) := fun W h => (h.cell (p := ⟨w.heap.size, 1, none⟩) (by show w.heap.size < _; omega)).trans (cell_of_row _ _ 1 _ _ _ hr0)
   have C10 : ∀ W, Below (w.heap.size + 1 + 1) W1 W → W.cell? ⟨w.heap.size + 1, 0, none⟩ = some (.slice a1 n1 c1) := fun W h => (h.cell (p := ⟨w.heap.size + 1, 0, none⟩) (by show w.heap.size + 1 < _; omega)).trans (cell_of_row _ _ 0 _ _ _ hr1)
   have C11 : ∀ W, Below (w.heap.size + 1 + 1) W1 W → W.cell? ⟨w.heap.size + 1, 1, none⟩ = some (.bool b1) := fun W h => (h.cell (p := ⟨w.heap.size + 1, 1, none⟩) (by show w.heap.size + 1 < _; omega)).trans (cell_of_row _ _ 1 _ _ _ hr1)
   have hrefl : Below (w.heap.size + 1 + 1) W1 W1 := Below.refl _ _
   have HR := qH (qA hb1 hr)
   have Hl2 := qH l2
   clear hr0 hr1 hr hb1
   go_enter Tryz.func137, Tryz.ntmps137
   go_wp2_with fail
   rw [← hW1]
   clear hW1
   refine (HC.out _ HR.out.1).mono ?_
   rintro e w5 ⟨rfl, hb5⟩
   have hst : Below (w.heap.size + 1 + 1) W1 w5 := hb5.mono (Nat.le_of_lt Hl2.out)
   have H5 := qH ((hb5.block _ Hl2.out).trans HR.out.2)
   clear hb5
   go_wp2_with fail
   have hstD : Below (w.heap.size + 1 + 1) W1 w5.drew := hst.drew
   go_region_held3 (fun W => Below (w.heap.size + 1 + 1) W1 W) (first | with_reducible exact hst | with_reducible exact hstD | with_reducible exact HB3 | with_reducible exact HB2 | ((iterate 2 refine Below.setCell ?_ (by exact Nat.le_refl _) _); exact HB3)) (first | (go_at_call 173; refine (HT.out _ (HR.out.1.trans (hstD.mono (by omega)))).mono ?_; rintro e w2 ⟨p2, rfl, hb2, hp2⟩; have HB2 : Below (w.heap.size + 1 + 1) W1 w2 := hstD.trans (hb2.mono (Nat.le_of_lt (Nat.lt_of_lt_of_le Hl2.out hst.size))); have HP2 := qH (qA hp2 ((hb2.block _ (Nat.lt_of_lt_of_le Hl2.out hst.size)).trans H5.out)); clear hb2 hp2) | (go_at_call 149; refine (HS.out _ _ HP2.out.1).mono ?_; rintro e w3 ⟨p3, rfl, hb3, hp3⟩; have HB3 : Below (w.heap.size + 1 + 1) W1 w3 := HB2.trans (hb3.mono (Nat.le_trans (Nat.le_of_lt Hl2.out) HB2.size)); obtain ⟨a9, n9, c9, b9, rfl⟩ := int_shape hp3; have hz3 := (hb3.block _ (Nat.lt_of_lt_of_le Hl2.out HB2.size)).trans HP2.out.2; have e0 := cell_of_row w3 _ 0 _ _ _ hz3; have e1 := cell_of_row w3 _ 1 _ _ _ hz3; have f0 := frozen_of_row w3 _ 0 _ _ hz3; have f1 := frozen_of_row w3 _ 1 _ _ hz3; have HP3 := qH (qA hp3 hz3); clear hb3 hp3 hz3))
   go_wp2_with fail
   exact bodyPost_ret (v := .agg #[.slice a9 n9 c9, .bool b9]) (results_row rfl _ _ (w.heap.size + 1 + 1) 136 _ _ rfl (row_set2 HP3.out.2 a9 n9 c9 b9) Tryz.underlying136 rfl 2 (by kernel_rfl) rfl) rfl ⟨_, rfl, HR.out.1.trans (((HB3.setCell (by exact Nat.le_refl _) _).setCell (by exact Nat.le_refl _) _).mono (by omega)), int_set2 HP3.out.1 HP3.out.2 a9 n9 c9 b9⟩
  ·have ht := fun (W : World) (h : Below w.heap.size w W) => minus_any x.natAbs y.natAbs K hK m o W (hm.below h) (ho.below h) hx (by omega)
   have hs := fun (W : World) (p : Value) (h : MagAt W p (x.natAbs - y.natAbs)) => signed_any (x.natAbs - y.natAbs) (decide (x < 0)) p W h
   rw [sg_minus hsg (by omega)] at hs
   obtain ⟨cr, hcr⟩ : ∃ cr, cmp3 (x.natAbs : Int) (y.natAbs : Int) = cr := ⟨_, rfl⟩
   have hcr0 : ¬ cr < 0 := by rw [← hcr]; unfold cmp3; rw [if_neg (by omega)]; split <;> omega
   rw [hcr] at hc
   generalize decide (x < 0) = b0 at *
   generalize decide (y < 0) = b1 at *
   obtain ⟨a0, bm, om, c0, n0, M, rfl, Im, hMx⟩ := hm
   obtain ⟨a1, bo, oo, c1, n1, O, rfl, Io, hOx⟩ := ho
   have HT := qH ht
   have HS := qH hs
   have HC := qH hc
   clear ht hs hc Im hMx Io hOx hx hy hK hsg hlt hcr
   obtain ⟨W1, hW1⟩ : ∃ W1, W1 = ((w.alloc (.cells #[.slice a0 n0 c0, .bool b0] 136)).alloc (.cells #[.slice a1 n1 c1, .bool b1] 136)).alloc (.cells #[.slice none 0 0, .bool false] 136) := ⟨_, rfl⟩
   have hb1 : Below w.heap.size w W1 := hW1 ▸ ((qB.alloc qN _).alloc (by simp only [World.size_alloc]; omega) _).alloc (by simp only [World.size_alloc]; omega) _
   have hr0 : W1.heap[w.heap.size]? = some (.cells #[.slice a0 n0 c0, .bool b0] 136 (0, 0)) := by rw [hW1, qL _ _ _ (by simp only [World.size_alloc]; omega), qL _ _ _ (by simp only [World.size_alloc]; omega)]; exact qM _ _ _ (by simp)
   have hr1 : W1.heap[w.heap.size + 1]? = some (.cells #[.slice a1 n1 c1, .bool b1] 136 (0, 0)) := by rw [hW1, qL _ _ _ (by simp only [World.size_alloc]; omega)]; exact qM _ _ _ (by simp)
   have hr : W1.heap[w.heap.size + 1 + 1]? = some (.cells #[.slice none 0 0, .bool false] 136 (0, 0)) := by rw [hW1]; exact qM _ _ _ (by simp)
   have l2 : w.heap.size + 1 + 1 < W1.heap.size := (qG hr).1
   have C00 : ∀ W, Below (w.heap.size + 1 + 1) W1 W → W.cell? ⟨w.heap.size, 0, none⟩ = some (.slice a0 n0 c0) := fun W h => (h.cell (p := ⟨w.heap.size, 0, none⟩) (by show w.heap.size < _; omega)).trans (cell_of_row _ _ 0 _ _ _ hr0)
   have C01 : ∀ W, Below (w.heap.size + 1 + 1) W1 W → W.cell? ⟨w.heap.size, 1, none⟩ = some (.bool b0) := fun W h => (h.cell (p := ⟨w.heap.size, 1, none⟩) (by show w.heap.size < _; omega)).trans (cell_of_row _ _ 1 _ _ _ hr0)
   have C10 : ∀ W, Below (w.heap.size + 1 + 1) W1 W → W.cell? ⟨w.heap.size + 1, 0, none⟩ = some (.slice a1 n1 c1) := fun W h => (h.cell (p := ⟨w.heap.size + 1, 0, none⟩) (by show w.heap.size + 1 < _; omega)).trans (cell_of_row _ _ 0 _ _ _ hr1)
   have C11 : ∀ W, Below (w.heap.size + 1 + 1) W1 W → W.cell? ⟨w.heap.size + 1, 1, none⟩ = some (.bool b1) := fun W h => (h.cell (p := ⟨w.heap.size + 1, 1, none⟩) (by show w.heap.size + 1 < _; omega)).trans (cell_of_row _ _ 1 _ _ _ hr1)
   have hrefl : Below (w.heap.size + 1 + 1) W1 W1 := Below.refl _ _
   have HR := qH (qA hb1 hr)
   have Hl2 := qH l2
   clear hr0 hr1 hr hb1
   go_enter Tryz.func137, Tryz.ntmps137
   go_wp2_with fail
   rw [← hW1]
   clear hW1
   refine (HC.out _ HR.out.1).mono ?_
   rintro e w5 ⟨rfl, hb5⟩
   have hst : Below (w.heap.size + 1 + 1) W1 w5 := hb5.mono (Nat.le_of_lt Hl2.out)
   have H5 := qH ((hb5.block _ Hl2.out).trans HR.out.2)
   clear hb5
   go_wp2_with fail
   have hstD : Below (w.heap.size + 1 + 1) W1 w5.drew := hst.drew
   go_region_held3 (fun W => Below (w.heap.size + 1 + 1) W1 W) (first | with_reducible exact hst | with_reducible exact hstD | with_reducible exact HB3 | with_reducible exact HB2 | ((iterate 2 refine Below.setCell ?_ (by exact Nat.le_refl _) _); exact HB3)) (first | (go_at_call 173; refine (HT.out _ (HR.out.1.trans (hstD.mono (by omega)))).mono ?_; rintro e w2 ⟨p2, rfl, hb2, hp2⟩; have HB2 : Below (w.heap.size + 1 + 1) W1 w2 := hstD.trans (hb2.mono (Nat.le_of_lt (Nat.lt_of_lt_of_le Hl2.out hst.size))); have HP2 := qH (qA hp2 ((hb2.block _ (Nat.lt_of_lt_of_le Hl2.out hst.size)).trans H5.out)); clear hb2 hp2) | (go_at_call 149; refine (HS.out _ _ HP2.out.1).mono ?_; rintro e w3 ⟨p3, rfl, hb3, hp3⟩; have HB3 : Below (w.heap.size + 1 + 1) W1 w3 := HB2.trans (hb3.mono (Nat.le_trans (Nat.le_of_lt Hl2.out) HB2.size)); obtain ⟨a9, n9, c9, b9, rfl⟩ := int_shape hp3; have hz3 := (hb3.block _ (Nat.lt_of_lt_of_le Hl2.out HB2.size)).trans HP2.out.2; have e0 := cell_of_row w3 _ 0 _ _ _ hz3; have e1 := cell_of_row w3 _ 1 _ _ _ hz3; have f0 := frozen_of_row w3 _ 0 _ _ hz3; have f1 := frozen_of_row w3 _ 1 _ _ hz3; have HP3 := qH (qA hp3 hz3); clear hb3 hp3 hz3))
   go_wp2_with fail
   exact bodyPost_ret (v := .agg #[.slice a9 n9 c9, .bool b9]) (results_row rfl _ _ (w.heap.size + 1 + 1) 136 _ _ rfl (row_set2 HP3.out.2 a9 n9 c9 b9) Tryz.underlying136 rfl 2 (by kernel_rfl) rfl) rfl ⟨_, rfl, HR.out.1.trans (((HB3.setCell (by exact Nat.le_refl _) _).setCell (by exact Nat.le_refl _) _).mono (by omega)), int_set2 HP3.out.1 HP3.out.2 a9 n9 c9 b9⟩
end Go.Proofs.YtfminfgabiipjaaGreatDoor.frac
end
section
namespace Go.Proofs.YtfminfgabiipjaaGreatDoor.frac
open Go.RowKit
def wtxt (z : Int) : ByteArray := ⟨(itxt z).toArray⟩
theorem wtxt_neg {z : Int} (h : z < 0) : wtxt z = ⟨#[45]⟩ ++ num z.natAbs := by
 apply ByteArray.ext
 rw [ByteArray.data_append]
 unfold wtxt itxt num
 rw [if_pos h]; simp
theorem wtxt_pos {z : Int} (h : ¬ z < 0) : wtxt z = num z.natAbs := by
 unfold wtxt itxt num; rw [if_neg h]
theorem num_le {x K : Nat} (h : Fit x K) (hK : 0 < K) : (num x).size ≤ 9 * K := by
 rw [num_size]
 refine decDigits_len_le _ _ (by omega) ?_
 rw [← pow9]; exact h
set_option maxRecDepth 100000 in
set_option maxHeartbeats 1000000 in
theorem text_any (z : Int) (K : Nat) (hK0 : 0 < K) (hK : K ≤ 137438953472) (v : Value) (w : World) (hv : IntAt w v z) (hz : Fit z.natAbs K) (hT : HasT w) :
  Calls Tryz.prog 179 #[v] w fun e w' => e = .returned (.string (wtxt z)) ∧ Below w.heap.size w w' := by
 obtain ⟨m, rfl, hm⟩ := hv
 have hd := fun (W : World) (h : Below w.heap.size w W) => digits_any z.natAbs K (by omega) m W (hm.below h) hz (hT.below h)
 have hn := num_le hz hK0
 have HA : Hid (∀ cs, Below w.heap.size w (w.alloc (.cells cs 136))) := qH fun cs => qB.alloc qN _
 by_cases h0 : z < 0
 ·rw [wtxt_neg h0, decide_eq_true h0]
  generalize num z.natAbs = t at *
  have hadd : ∀ W, (Op.stringOp .add ⟨#[45]⟩ t).run Tryz.prog W = .ok (.string (⟨#[45]⟩ ++ t)) W := fun W => run_string_add_sum W _ _ (by have : (⟨#[45]⟩ : ByteArray).size = 1 := rfl; omega)
  obtain ⟨T, hTe⟩ : ∃ T, (⟨#[45]⟩ : ByteArray) ++ t = T := ⟨_, rfl⟩
  rw [hTe] at hadd ⊢
  have HD := qH hd
  obtain ⟨am, bm, om, cm, n, M, rfl, Im, hMx⟩ := hm
  clear hd hTe Im hMx hn h0 hz hT
  go_enter Tryz.func179, Tryz.ntmps179
  go_wp2_with fail
  refine (HD.out _ (HA.out _)).mono ?_
  rintro e w1 ⟨rfl, hb1⟩
  have HB := qH ((HA.out _).trans (hb1.mono (HA.out _).size))
  clear hb1
  go_wp2_with fail
  go_ret
  exact ⟨rfl, HB.out⟩
 ·rw [wtxt_pos h0, decide_eq_false h0]
  generalize num z.natAbs = t at *
  have HD := qH hd
  obtain ⟨am, bm, om, cm, n, M, rfl, Im, hMx⟩ := hm
  clear hd Im hMx hn h0 hz hT
  go_enter Tryz.func179, Tryz.ntmps179
  go_wp2_with fail
  refine (HD.out _ (HA.out _)).mono ?_
  rintro e w1 ⟨rfl, hb1⟩
  have HB := qH ((HA.out _).trans (hb1.mono (HA.out _).size))
  clear hb1
  go_wp2_with fail
  go_ret
  exact ⟨rfl, HB.out⟩
set_option maxRecDepth 100000 in
set_option maxHeartbeats 1000000 in
theorem sign_any (z : Int) (v : Value) (w : World) (hv : IntAt w v z) :
  Calls Tryz.prog 139 #[v] w fun e w' => e = .returned (.int .i64 (cmp3 z 0)) ∧ Below w.heap.size w w' := by
 obtain ⟨m, rfl, hm⟩ := hv
 have hz := fun (W : World) (h : Below w.heap.size w W) => zero_any z.natAbs m W (hm.below h)
 have HA : Hid (∀ cs, Below w.heap.size w (w.alloc (.cells cs 136))) := qH fun cs => qB.alloc qN _
 obtain ⟨am, bm, om, cm, n, M, rfl, Im, hMx⟩ := hm
 clear Im hMx
 rcases Int.lt_trichotomy z 0 with h | h | h
 ·rw [decide_eq_true h, show cmp3 z 0 = -1 by unfold cmp3; rw [if_pos h]]
  rw [decide_eq_false (show ¬ z.natAbs = 0 by omega)] at hz
  have HZ := qH hz
  clear hz h
  go_enter Tryz.func139, Tryz.ntmps139
  go_wp2_with fail
  refine (HZ.out _ (HA.out _)).mono ?_
  rintro e w1 ⟨rfl, rfl⟩
  go_wp2_with fail
  go_ret
  exact ⟨rfl, HA.out _⟩
 ·subst h
  rw [decide_eq_false (by omega : ¬ (0 : Int) < 0), show cmp3 0 0 = 0 from rfl]
  rw [decide_eq_true (show (0 : Int).natAbs = 0 from rfl)] at hz
  have HZ := qH hz
  clear hz
  go_enter Tryz.func139, Tryz.ntmps139
  go_wp2_with fail
  refine (HZ.out _ (HA.out _)).mono ?_
  rintro e w1 ⟨rfl, rfl⟩
  go_wp2_with fail
  go_ret
  exact ⟨rfl, HA.out _⟩
 ·rw [decide_eq_false (by omega : ¬ z < 0), show cmp3 z 0 = 1 by unfold cmp3; rw [if_neg (by omega), if_neg (by omega)]]
  rw [decide_eq_false (show ¬ z.natAbs = 0 by omega)] at hz
  have HZ := qH hz
  clear hz h
  go_enter Tryz.func139, Tryz.ntmps139
  go_wp2_with fail
  refine (HZ.out _ (HA.out _)).mono ?_
  rintro e w1 ⟨rfl, rfl⟩
  go_wp2_with fail
  go_ret
  exact ⟨rfl, HA.out _⟩
end Go.Proofs.YtfminfgabiipjaaGreatDoor.frac
end
