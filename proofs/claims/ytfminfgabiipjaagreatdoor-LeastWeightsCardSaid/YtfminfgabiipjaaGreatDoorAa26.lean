/- Aa, part 26: Sum Sum2 Mat Piv Rnk Elm -/
import Derived.Deep.DrawnRows
import Derived.Deep.RegionWith
import Derived.Test.YtfminfgabiipjaaGreatDoorAa0
import Derived.Test.YtfminfgabiipjaaGreatDoorAa2
import Derived.Test.YtfminfgabiipjaaGreatDoorAa25
set_option maxRecDepth 100000
set_option maxHeartbeats 16000000
namespace Go.Proofs.YtfminfgabiipjaaGreatDoor
open Go.RowKit
abbrev zi0 : Value := .agg #[.slice none 0 0, .bool false]
def isum (t : Nat → Int) : Nat → Int
 | 0 => 0
 | n + 1 => isum t n + t n
theorem qfI (t : Nat → Int) (K : Nat) : ∀ k, (∀ j, j < k → Fit (t j).natAbs K) → Fit (isum t k).natAbs (K + k + 1)
 | 0, _ => Nat.pow_pos (by decide)
 | k + 1, h => by
  have h1 := qfI t K k (fun j hj => h j (by omega))
  have h2 := (h k (by omega)).mono (show K ≤ K + k + 1 by omega)
  exact (h1.add h2).le (Int.natAbs_add_le _ _)
theorem qje {w wr w3 : World} {a1 a9 : Option Addr} {n1 c1 n9 c9 : Nat} {b1 b9 : Bool} {z : Int} {o : Obj} (hp3 : IntAt w3 (.agg #[.slice a9 n9 c9, .bool b9]) z) (z3 : w3.heap[w.heap.size + 1 + 1]? = some (.cells #[.slice a1 n1 c1, .bool b1] 105 (0, 0))) (hb : Below (w.heap.size + 1 + 1) wr w3) (hz : wr.heap[w.heap.size + 1]? = some o) (hB : Below w.heap.size w wr) :
  ((w3.setCell ⟨w.heap.size + 1 + 1, 0, none⟩ (.slice a9 n9 c9)).setCell ⟨w.heap.size + 1 + 1, 1, none⟩ (.bool b9)).heap[w.heap.size + 1 + 1]? = some (.cells #[.slice a9 n9 c9, .bool b9] 105 (0, 0)) ∧
   IntAt ((w3.setCell ⟨w.heap.size + 1 + 1, 0, none⟩ (.slice a9 n9 c9)).setCell ⟨w.heap.size + 1 + 1, 1, none⟩ (.bool b9)) (.agg #[.slice a9 n9 c9, .bool b9]) z ∧
   ((w3.setCell ⟨w.heap.size + 1 + 1, 0, none⟩ (.slice a9 n9 c9)).setCell ⟨w.heap.size + 1 + 1, 1, none⟩ (.bool b9)).heap[w.heap.size + 1]? = some o ∧
   Below w.heap.size w ((w3.setCell ⟨w.heap.size + 1 + 1, 0, none⟩ (.slice a9 n9 c9)).setCell ⟨w.heap.size + 1 + 1, 1, none⟩ (.bool b9)) := by
 have hne : w.heap.size + 1 ≠ w.heap.size + 1 + 1 := by omega
 refine ⟨heap_setCell_same _ _ 1 _ _ _ (heap_setCell_same _ _ 0 _ _ _ z3), ?_, (Below.heap_setCell _ ⟨_, 1, none⟩ _ _ hne).trans ((Below.heap_setCell _ ⟨_, 0, none⟩ _ _ hne).trans ((hb.block _ (by omega)).trans hz)), ((hB.trans (hb.mono (by omega))).setCell (p := ⟨_, 0, none⟩) (by show w.heap.size ≤ w.heap.size + 1 + 1; omega) _).setCell (p := ⟨_, 1, none⟩) (by show w.heap.size ≤ w.heap.size + 1 + 1; omega) _⟩
 obtain ⟨m, e, hg⟩ := hp3
 refine ⟨m, e, qcC hg (qca (least.qcb w3 _ 0 _) (least.qcb _ _ 1 _)) z3 ?_⟩
 intro x hx d
 rcases qaL.1 hx with rfl | hx
 ·intro h; cases h
 ·rw [qaq.1 hx]; intro h; cases h
theorem qk8 (n : Nat) (p1 p2 : Value) (t : Nat → Int) (K : Nat) (hK : K ≤ 34359738368) (w : World) (hn : n ≤ 64)
  (hterm : ∀ W (j : Nat), j < n → Below w.heap.size w W → Calls Tryz.prog 68 #[.int .i64 j, p1, p2] W fun e W' => ∃ u, e = .returned u ∧ Below W.heap.size W W' ∧ IntAt W' u (t j)) (hfit : ∀ j, j < n → Fit (t j).natAbs K) :
  Calls Tryz.prog 67 #[.int .i64 n, zi0, .func (.func 68) #[] #[p1, p2], .func (.func 70) #[] #[]] w fun e w' => ∃ u, e = .returned u ∧ Below w.heap.size w w' ∧ IntAt w' u (isum t n) := by
 have HT := qH hterm
 have HF := qH hfit
 have hfi := qfD
 clear hterm hfit
 go_enter Tryz.func67, Tryz.ntmps67
 go_wp2_with fail
 go_loopw [13] (fun x13 W => ∃ (k : Nat) (a : Option Addr) (m c : Nat) (b : Bool), k ≤ n ∧ x13 = .int .i64 k ∧ Hid (W.heap[w.heap.size + 1 + 1]? = some (.cells #[.slice a m c, .bool b] 105 (0, 0)) ∧ IntAt W (.agg #[.slice a m c, .bool b]) (isum t k) ∧ W.heap[w.heap.size + 1]? = some (.cells #[.slice none 0 0, .bool false] 105 (0, 0))) ∧ Hid (Below w.heap.size w W)) (fun x13 _ => n - (intOf x13).toNat)
 case atStart =>
  refine ⟨0, none, 0, 0, false, qar _, rfl, qH ⟨qM _ _ _ (by simp), ?_, (qL _ _ _ (by simp)).trans (qM _ _ _ (by simp))⟩, qH (qb1 (qb1 (qb1 qB qN) qN) qN)⟩
  exact ⟨_, rfl, MagAt.nil _⟩
 case round =>
  obtain ⟨k, a1, n1, c1, b1, hk, rfl, hI, hB⟩ := hrel
  by_cases hkn : k < n
  ·have hki : (k : Int) < n := by omega
   have e0 := cell_of_row wr _ 0 _ _ _ hI.out.1
   have e1 := cell_of_row wr _ 1 _ _ _ hI.out.1
   have hst : Below (w.heap.size + 1 + 1) wr wr := Below.refl _ _
   have hstD : Below (w.heap.size + 1 + 1) wr wr.drew := hst.drew
   have hlt := (qG hI.out.1).1
   have Hlt := qH hlt
   clear hlt
   have HFt := qH (qA (qfI t K k (fun j hj => HF.out j (by omega))) ((HF.out k hkn).mono (show K ≤ K + k + 1 by omega)))
   go_wp2_with fail
   go_region_with (first | (go_at_call 70; refine (least.qeN (isum t k) (t k) (K + k + 1) (by omega) _ _ _ (by first | exact HP2.out.1 | exact HP2.out.1.below qB.drew) (by first | exact HP2.out.2.1 | exact HP2.out.2.1.below qB.drew) HFt.out.1 HFt.out.2).mono ?_; rintro e w3 ⟨p3, rfl, hb3, hp3⟩; have HB3 : Below (w.heap.size + 1 + 1) wr w3 := HB2.trans (hb3.mono (qam (qao Hlt.out) HB2.size)); obtain ⟨a9, n9, c9, b9, rfl⟩ := least.qb8 hp3; have z3 := (hb3.block _ (qak Hlt.out HB2.size)).trans HP2.out.2.2; have q0 := cell_of_row w3 _ 0 _ _ _ z3; have q1 := cell_of_row w3 _ 1 _ _ _ z3; have f0 := frozen_of_row w3 _ 0 _ _ z3; have f1 := frozen_of_row w3 _ 1 _ _ z3; have HF3 := qH (qje hp3 z3 HB3 hI.out.2.2 hB.out); clear hb3 hp3 z3) | (go_at_call 68; refine (HT.out _ k hkn (hB.out.trans (hstD.mono (by omega)))).mono ?_; rintro e w2 ⟨u2, rfl, hb2, hu2⟩; have HB2 : Below (w.heap.size + 1 + 1) wr w2 := hstD.trans (hb2.mono (qao Hlt.out)); have z2 : w2.heap[w.heap.size + 1 + 1]? = some (.cells #[.slice a1 n1 c1, .bool b1] 105 (0, 0)) := (hb2.block _ Hlt.out).trans hI.out.1; have g0 := cell_of_row w2 _ 0 _ _ _ z2; have g1 := cell_of_row w2 _ 1 _ _ _ z2; obtain ⟨a2, n2, c2, b2, rfl⟩ := least.qb8 hu2; have HP2 := qH (qA (hI.out.2.1.below (W' := w2) ((Below.refl wr.heap.size wr).drew.trans hb2)) (qA hu2 z2)); clear hb2 hu2 z2))
   all_goals go_wp2_with fail
   all_goals go_roundw
   all_goals first
    | exact ⟨k + 1, a9, n9, c9, b9, hkn, by go_num, qH ⟨HF3.out.1, HF3.out.2.1, HF3.out.2.2.1⟩, qH HF3.out.2.2.2⟩
    | (simp [intOf]; omega)
  ·obtain rfl : k = n := by omega
   have e0 := cell_of_row wr _ 0 _ _ _ hI.out.1
   have e1 := cell_of_row wr _ 1 _ _ _ hI.out.1
   have hrow := hI.out.2.2
   have HR := qH (qA hrow (qA (below_setRow hB.out (show w.heap.size ≤ w.heap.size + 1 by omega) #[.slice a1 n1 c1, .bool b1]) (least.qdE (cs' := #[.slice a1 n1 c1, .bool b1]) hI.out.2.1 hrow qej)))
   clear hrow
   go_wp2_with ((with_reducible refine wpList_store_row rfl 105 _ _ rfl (w.heap.size + 1) #[.slice a1 n1 c1, .bool b1] ?_ ?_ 105 _ HR.out.1 2 ?_ ?_ ?_ ?_ ?_); (next => rfl); (next => rfl); (next => kernel_rfl); (next => rfl); (next => rfl); (next => rfl))
   exact bodyPost_ret (v := .agg #[.slice a1 n1 c1, .bool b1]) (qb9 rfl _ _ (w.heap.size + 1) 105 _ _ rfl (setRow_heap _ _ _ _ _ _ HR.out.1) Tryz.underlying105 rfl 2 (by kernel_rfl) rfl) rfl ⟨_, rfl, HR.out.2.1, HR.out.2.2⟩
theorem qip (n : Nat) (y1 y2 y3 y4 : Value) (t : Nat → Int) (K : Nat) (hK : K ≤ 34359738368) (w : World) (hn : n ≤ 64)
  (hterm : ∀ W (j : Nat), j < n → Below w.heap.size w W → Calls Tryz.prog 115 #[.int .i64 j, y1, y2, y3, y4] W fun e W' => ∃ u, e = .returned u ∧ Below W.heap.size W W' ∧ IntAt W' u (t j)) (hfit : ∀ j, j < n → Fit (t j).natAbs K) :
  Calls Tryz.prog 67 #[.int .i64 n, zi0, .func (.func 115) #[] #[y1, y2, y3, y4], .func (.func 70) #[] #[]] w fun e w' => ∃ u, e = .returned u ∧ Below w.heap.size w w' ∧ IntAt w' u (isum t n) := by
 have HT := qH hterm
 have HF := qH hfit
 have hfi := qfD
 clear hterm hfit
 go_enter Tryz.func67, Tryz.ntmps67
 go_wp2_with fail
 go_loopw [13] (fun x13 W => ∃ (k : Nat) (a : Option Addr) (m c : Nat) (b : Bool), k ≤ n ∧ x13 = .int .i64 k ∧ Hid (W.heap[w.heap.size + 1 + 1]? = some (.cells #[.slice a m c, .bool b] 105 (0, 0)) ∧ IntAt W (.agg #[.slice a m c, .bool b]) (isum t k) ∧ W.heap[w.heap.size + 1]? = some (.cells #[.slice none 0 0, .bool false] 105 (0, 0))) ∧ Hid (Below w.heap.size w W)) (fun x13 _ => n - (intOf x13).toNat)
 case atStart =>
  refine ⟨0, none, 0, 0, false, qar _, rfl, qH ⟨qM _ _ _ (by simp), ?_, (qL _ _ _ (by simp)).trans (qM _ _ _ (by simp))⟩, qH (qb1 (qb1 (qb1 qB qN) qN) qN)⟩
  exact ⟨_, rfl, MagAt.nil _⟩
 case round =>
  obtain ⟨k, a1, n1, c1, b1, hk, rfl, hI, hB⟩ := hrel
  by_cases hkn : k < n
  ·have hki : (k : Int) < n := by omega
   have e0 := cell_of_row wr _ 0 _ _ _ hI.out.1
   have e1 := cell_of_row wr _ 1 _ _ _ hI.out.1
   have hst : Below (w.heap.size + 1 + 1) wr wr := Below.refl _ _
   have hstD : Below (w.heap.size + 1 + 1) wr wr.drew := hst.drew
   have hlt := (qG hI.out.1).1
   have Hlt := qH hlt
   clear hlt
   have HFt := qH (qA (qfI t K k (fun j hj => HF.out j (by omega))) ((HF.out k hkn).mono (show K ≤ K + k + 1 by omega)))
   go_wp2_with fail
   go_region_with (first | (go_at_call 70; refine (least.qeN (isum t k) (t k) (K + k + 1) (by omega) _ _ _ (by first | exact HP2.out.1 | exact HP2.out.1.below qB.drew) (by first | exact HP2.out.2.1 | exact HP2.out.2.1.below qB.drew) HFt.out.1 HFt.out.2).mono ?_; rintro e w3 ⟨p3, rfl, hb3, hp3⟩; have HB3 : Below (w.heap.size + 1 + 1) wr w3 := HB2.trans (hb3.mono (qam (qao Hlt.out) HB2.size)); obtain ⟨a9, n9, c9, b9, rfl⟩ := least.qb8 hp3; have z3 := (hb3.block _ (qak Hlt.out HB2.size)).trans HP2.out.2.2; have q0 := cell_of_row w3 _ 0 _ _ _ z3; have q1 := cell_of_row w3 _ 1 _ _ _ z3; have f0 := frozen_of_row w3 _ 0 _ _ z3; have f1 := frozen_of_row w3 _ 1 _ _ z3; have HF3 := qH (qje hp3 z3 HB3 hI.out.2.2 hB.out); clear hb3 hp3 z3) | (go_at_call 115; refine (HT.out _ k hkn (hB.out.trans (hstD.mono (by omega)))).mono ?_; rintro e w2 ⟨u2, rfl, hb2, hu2⟩; have HB2 : Below (w.heap.size + 1 + 1) wr w2 := hstD.trans (hb2.mono (qao Hlt.out)); have z2 : w2.heap[w.heap.size + 1 + 1]? = some (.cells #[.slice a1 n1 c1, .bool b1] 105 (0, 0)) := (hb2.block _ Hlt.out).trans hI.out.1; have g0 := cell_of_row w2 _ 0 _ _ _ z2; have g1 := cell_of_row w2 _ 1 _ _ _ z2; obtain ⟨a2, n2, c2, b2, rfl⟩ := least.qb8 hu2; have HP2 := qH (qA (hI.out.2.1.below (W' := w2) ((Below.refl wr.heap.size wr).drew.trans hb2)) (qA hu2 z2)); clear hb2 hu2 z2))
   all_goals go_wp2_with fail
   all_goals go_roundw
   all_goals first
    | exact ⟨k + 1, a9, n9, c9, b9, hkn, by go_num, qH ⟨HF3.out.1, HF3.out.2.1, HF3.out.2.2.1⟩, qH HF3.out.2.2.2⟩
    | (simp [intOf]; omega)
  ·obtain rfl : k = n := by omega
   have e0 := cell_of_row wr _ 0 _ _ _ hI.out.1
   have e1 := cell_of_row wr _ 1 _ _ _ hI.out.1
   have hrow := hI.out.2.2
   have HR := qH (qA hrow (qA (below_setRow hB.out (show w.heap.size ≤ w.heap.size + 1 by omega) #[.slice a1 n1 c1, .bool b1]) (least.qdE (cs' := #[.slice a1 n1 c1, .bool b1]) hI.out.2.1 hrow qej)))
   clear hrow
   go_wp2_with ((with_reducible refine wpList_store_row rfl 105 _ _ rfl (w.heap.size + 1) #[.slice a1 n1 c1, .bool b1] ?_ ?_ 105 _ HR.out.1 2 ?_ ?_ ?_ ?_ ?_); (next => rfl); (next => rfl); (next => kernel_rfl); (next => rfl); (next => rfl); (next => rfl))
   exact bodyPost_ret (v := .agg #[.slice a1 n1 c1, .bool b1]) (qb9 rfl _ _ (w.heap.size + 1) 105 _ _ rfl (setRow_heap _ _ _ _ _ _ HR.out.1) Tryz.underlying105 rfl 2 (by kernel_rfl) rfl) rfl ⟨_, rfl, HR.out.2.1, HR.out.2.2⟩
abbrev rowv (g n : Nat) : Value := .slice (some ⟨g, 0, none⟩) n n
def rowvs (R n : Nat) (gs : Nat → Nat) : List Value := (List.range R).map fun i => rowv (gs i) n
theorem qc4 (R n : Nat) (gs : Nat → Nat) : (rowvs R n gs).length = R := by rw [rowvs, qaG, qbd]
theorem qew {R n i : Nat} {gs : Nat → Nat} (hi : i < R) : (rowvs R n gs)[i]? = some (rowv (gs i) n) := by
 rw [rowvs, qav, qaI hi]; rfl
theorem qms {R n i : Nat} {gs : Nat → Nat} (g : Nat) : (rowvs R n gs).set i (rowv g n) = rowvs R n (fun j => if j = i then g else gs j) := by
 apply qbw
 intro j
 by_cases hj : j < R
 ·rw [qew hj, List.getElem?_set]
  by_cases e : i = j
  ·subst e; rw [if_pos rfl, if_pos (by rw [qc4]; exact hj), if_pos rfl]
  ·rw [if_neg e, qew hj, if_neg (fun h => e h.symm)]
 ·rw [qau (by rw [qaS, qc4]; omega), qau (by rw [qc4]; omega)]
def qcx (W : World) (g n : Nat) (m : Nat → Int) : Prop := ∃ ps : List (Value × Bool), ps.length = n ∧ IRow W g n ps ∧ qcH W ps m
theorem qcx.below {W W' : World} {g n : Nat} {m : Nat → Int} (h : qcx W g n m) (hb : Below W.heap.size W W') : qcx W' g n m := by
 obtain ⟨ps, h1, h2, h3⟩ := h
 exact ⟨ps, h1, h2.below hb, h3.below hb⟩
theorem qcx.cells {W : World} {g n : Nat} {ps : List (Value × Bool)} (h1 : ps.length = n) (h2 : IRow W g n ps) : qhy W g n ps := by
 intro k hk
 have h0 : (ps ++ List.replicate (n - ps.length) (zs0, false))[k]? = some (ps.getD k (zs0, false)) := by
  rw [qay (by omega), qac, qai (by omega)]; rfl
 obtain ⟨e1, e2⟩ := qfH _ _ _ h0
 exact ⟨(cell_of_row _ _ _ _ _ _ h2.1).trans ((qax ..).trans e1), (cell_of_row _ _ _ _ _ _ h2.1).trans ((qax ..).trans e2)⟩
structure MatAt (W : World) (tb R n : Nat) (gs : Nat → Nat) (M : Nat → Nat → Int) : Prop where
 row : W.heap[tb]? = some (.cells (rowvs R n gs).toArray 79 (0, 0))
 rows : ∀ i, i < R → qcx W (gs i) n (M i)
theorem MatAt.below {W W' : World} {tb R n : Nat} {gs : Nat → Nat} {M : Nat → Nat → Int} (h : MatAt W tb R n gs M) (hb : Below W.heap.size W W') : MatAt W' tb R n gs M :=
 ⟨(hb.block _ (qG h.row).1).trans h.row, fun i hi => (h.rows i hi).below hb⟩
theorem MatAt.cell {W : World} {tb R n : Nat} {gs : Nat → Nat} {M : Nat → Nat → Int} (h : MatAt W tb R n gs M) {i : Nat} (hi : i < R) : W.cell? ⟨tb, i, none⟩ = some (rowv (gs i) n) ∧ W.frozen? ⟨tb, i, none⟩ = false :=
 ⟨(cell_of_row _ _ _ _ _ _ h.row).trans ((qax ..).trans (qew hi)), frozen_of_row _ _ _ _ _ h.row⟩
theorem qhl {R n : Nat} {gs : Nat → Nat} : ∀ x ∈ (rowvs R n gs).toArray.toList, ∀ d, x ≠ .int .u32 d := by
 intro x hx d e
 obtain ⟨i, _, h⟩ := List.mem_map.1 (show x ∈ rowvs R n gs from hx)
 rw [e] at h; cases h
theorem qcx.keep {W W' : World} {tb R n g m' : Nat} {gs : Nat → Nat} {m : Nat → Int} (h : qcx W g m' m) (hk : W.grownBy W' (some tb)) (ht : W.heap[tb]? = some (.cells (rowvs R n gs).toArray 79 (0, 0))) : qcx W' g m' m := by
 obtain ⟨ps, h1, h2, h3⟩ := h
 have hne : g ≠ tb := by
  intro e
  subst e
  have := h2.1.symm.trans ht
  simp at this
 exact ⟨ps, h1, ⟨(hk.block _ (qG h2.1).1 (fun e => hne (qan e))).trans h2.1, h2.2⟩, h3.keep hk ht qhl⟩
theorem MatAt.set {W : World} {tb R n : Nat} {gs : Nat → Nat} {M : Nat → Nat → Int} (h : MatAt W tb R n gs M) (i g : Nat) (m : Nat → Int) (hg : qcx W g n m) :
  MatAt (W.setCell ⟨tb, i, none⟩ (rowv g n)) tb R n (fun j => if j = i then g else gs j) (fun j => if j = i then m else M j) := by
 have hk := least.qcb W tb i (rowv g n)
 refine ⟨?_, fun j hj => ?_⟩
 ·rw [heap_setCell_same _ tb i _ _ _ h.row, qaa, qms]
 ·by_cases e : j = i
  ·simp only [if_pos e]; exact hg.keep hk h.row
  ·simp only [if_neg e]; exact (h.rows j hj).keep hk h.row
theorem MatAt.congr {W : World} {tb R n : Nat} {gs gs' : Nat → Nat} {M M' : Nat → Nat → Int} (h : MatAt W tb R n gs M) (hg : ∀ i, i < R → gs i = gs' i) (hM : ∀ i, i < R → M i = M' i) : MatAt W tb R n gs' M' := by
 refine ⟨?_, fun i hi => by rw [← hg i hi, ← hM i hi]; exact h.rows i hi⟩
 rw [h.row]
 congr 3
 exact List.map_congr_left fun i hi => by rw [hg i (qbp.1 hi)]
def PivAs (w : World) (tb R n k c : Nat) (gs : Nat → Nat) (M : Nat → Nat → Int) (e : Ending) (w' : World) : Prop :=
 (e = .returned (.bool false) ∧ w' = w ∧ ∀ i, k ≤ i → i < R → M i c = 0) ∨
 (e = .returned (.bool true) ∧ w.grownBy w' (some tb) ∧ ∃ a, k ≤ a ∧ a < R ∧ M a c ≠ 0 ∧ MatAt w' tb R n (fun j => if j = k then gs a else if j = a then gs k else gs j) (fun j => if j = k then M a else if j = a then M k else M j))
theorem qiX (tb R n k c : Nat) (gs : Nat → Nat) (M : Nat → Nat → Int) (w : World) (hR : R ≤ 1024) (hk : k < R) (hc : c < n) (_hn : n ≤ 1024) (hM : MatAt w tb R n gs M) :
  Calls Tryz.prog 108 #[.slice (some ⟨tb, 0, none⟩) R R, .int .i64 k, .int .i64 c] w fun e w' => PivAs w tb R n k c gs M e w' := by
 have HM := qH hM
 have hki : (k : Int) < R := by omega
 have hci : (c : Int) < n := by omega
 clear hM
 go_enter Tryz.func108, Tryz.ntmps108
 go_wp2
 go_step3
 go_wp2
 go_step3
 go_wp2
 go_loopw [7, 8] (fun x7 x8 W => ∃ i : Nat, k ≤ i ∧ i ≤ R ∧ x7 = .int .i64 (-1) ∧ x8 = .int .i64 i ∧ W = w ∧ Hid (∀ j, k ≤ j → j < i → M j c = 0)) (fun _ x8 _ => R - (intOf x8).toNat)
 case atStart => exact ⟨k, qaf _, qao hk, rfl, rfl, rfl, qH (fun j h1 h2 => absurd h1 (by omega))⟩
 case round =>
  obtain ⟨i, hik, hiR, rfl, rfl, rfl, hI⟩ := hrel
  by_cases hi : i < R
  ·have hii : (i : Int) < R := by omega
   obtain ⟨ps, hps, hrow, hpa⟩ := HM.out.rows i hi
   obtain ⟨c0, f0⟩ := HM.out.cell hi
   obtain ⟨d0, d1⟩ := qcx.cells hps hrow c hc
   obtain ⟨h1, h2⟩ := hpa c (by omega)
   have hz := least.qdc (M i c).natAbs _ wr h2
   have HZ := qH hz
   obtain ⟨a, _, _, cc, m, _, e, _, _⟩ := h2
   rw [e] at d0
   rw [e] at HZ
   clear hz e d1 h1 hps hrow hpa
   go_wp2_with fail
   refine HZ.out.mono ?_
   rintro e w2 ⟨rfl, hw2⟩
   subst hw2
   by_cases h0 : (M i c).natAbs = 0
   ·rw [decide_eq_true h0]
    go_wp2_with fail
    go_roundw
    case rel =>
     refine ⟨i + 1, by omega, hi, rfl, by go_num, trivial, qH (fun j h1 h2 => ?_)⟩
     by_cases e : j = i
     ·subst e; omega
     ·exact hI.out j h1 (by omega)
    case measure => simp [intOf]; omega
   ·rw [decide_eq_false h0]
    obtain ⟨c1, f1⟩ := HM.out.cell hk
    have m1 := HM.out.set i (gs k) (M k) (HM.out.rows k hk)
    have m2 := m1.set k (gs i) (M i) ((HM.out.rows i hi).keep (least.qcb w2 tb i (rowv (gs k) n)) HM.out.row)
    obtain ⟨c2, f2⟩ := m1.cell hk
    have H2 := qH m2
    have H0 := qH h0
    clear m1 m2 h0 hR
    go_wp2_with fail
    go_region
    all_goals go_wp2_with fail
    all_goals rw [Exit.noGoto_ret]
    all_goals go_ret
    all_goals exact qas ⟨rfl, qdh (qca (least.qcb _ _ _ _) (least.qcb _ _ _ _)) qB.drew, i, hik, hi, fun h => H0.out (by rw [h]; rfl), H2.out.below qB.drew⟩
  ·obtain rfl : i = R := by omega
   go_wp2_with fail
   rw [Exit.noGoto_ret]
   go_ret
   exact qaA ⟨rfl, rfl, hI.out⟩
def KK (K k : Nat) : Nat := (K + 1) * 2 ^ k - 1
theorem qhZ (K : Nat) : KK K 0 = K := by unfold KK; rw [Nat.pow_zero, qbN]; omega
theorem qhY (K k : Nat) : KK K (k + 1) = KK K k + KK K k + 1 := by
 unfold KK
 have h : 0 < (K + 1) * 2 ^ k := qbV (by omega) (Nat.pow_pos (by decide))
 rw [qaJ, ← qaz]
 omega
theorem KK_le {K k : Nat} (hK : K ≤ 33554430) (hk : k ≤ 10) : KK K k ≤ 34359738368 := by
 unfold KK
 have h1 : 2 ^ k ≤ 2 ^ 10 := qaT (by decide) hk
 have h2 : (K + 1) * 2 ^ k ≤ (K + 1) * 2 ^ 10 := qaK _ h1
 have h3 : (2 : Nat) ^ 10 = 1024 := by decide
 rw [h3] at h2
 omega
theorem qjZ {a b c d z : Int} {K : Nat} (ha : Fit a.natAbs K) (hb : Fit b.natAbs K) (hc : Fit c.natAbs K) (hd : Fit d.natAbs K) : Fit ((a * b - c * d).tdiv z).natAbs (K + K + 1) := by
 have h1 := ha.mul hb
 have h2 := hc.mul hd
 rw [← qaC] at h1 h2
 refine ((h1.add h2).le ?_)
 refine qam ?_ (show (a * b - c * d).natAbs ≤ _ by omega)
 rw [Int.natAbs_tdiv]
 exact qaU _ _
def qcS (M : Nat → Nat → Int) (k c : Nat) (D : Int) (i : Nat) : Nat → Nat → Int := qcg (fun j => decide (k < j) && decide (j < i)) M k c D
theorem qkU (M : Nat → Nat → Int) (k c : Nat) (D : Int) : qcS M k c D (k + 1) = M := by
 funext j
 unfold qcS qcg
 rw [if_neg]
 intro h
 have := h.1
 simp only [qaX, decide_eq_true_eq] at this
 omega
theorem qhf (M : Nat → Nat → Int) (k c : Nat) (D : Int) (i : Nat) : qcS M k c D i i = M i ∧ qcS M k c D i k = M k := by
 unfold qcS qcg
 constructor
 ·rw [if_neg]; intro h; have := h.1; simp only [qaX, decide_eq_true_eq] at this; omega
 ·rw [if_neg]; intro h; exact h.2 rfl
theorem qme (M : Nat → Nat → Int) (k c : Nat) (D : Int) (i : Nat) (hi : k < i) : (fun j => if j = i then (fun x => (M k c * M i x - M i c * M k x).tdiv D) else qcS M k c D i j) = qcS M k c D (i + 1) := by
 funext j
 by_cases e : j = i
 ·subst e
  rw [if_pos rfl]
  unfold qcS qcg
  rw [if_pos ⟨by simp only [qaX, decide_eq_true_eq]; omega, by omega⟩]
 ·rw [if_neg e]
  unfold qcS qcg
  have h : (decide (k < j) && decide (j < i)) = (decide (k < j) && decide (j < i + 1)) := by
   rw [show decide (j < i) = decide (j < i + 1) from decide_eq_decide.2 (by omega)]
  simp only [h]
theorem part_end (M : Nat → Nat → Int) (k c : Nat) (D : Int) (R : Nat) : ∀ j, j < R → qcS M k c D R j = qcg (fun i => decide (k < i)) M k c D j := by
 intro j hj
 unfold qcS qcg
 simp only [decide_eq_true hj, Bool.and_true]
theorem part_fit {M : Nat → Nat → Int} {k c : Nat} {D : Int} {R n K : Nat} (hk : k < R) (hc : c < n) (h : ∀ i, i < R → ∀ j, j < n → Fit (M i j).natAbs K) : ∀ i, i < R → ∀ j, j < n → Fit (qcg (fun i => decide (k < i)) M k c D i j).natAbs (K + K + 1) := by
 intro i hi j hj
 unfold qcg
 split
 ·exact qjZ (h k hk c hc) (h i hi j hj) (h i hi c hc) (h k hk j hj)
 ·exact (h i hi j hj).mono (by omega)
theorem qkz {M : Nat → Nat → Int} {k a R n K : Nat} (hk : k < R) (ha : a < R) (h : ∀ i, i < R → ∀ j, j < n → Fit (M i j).natAbs K) : ∀ i, i < R → ∀ j, j < n → Fit (qck M k a i j).natAbs K := by
 intro i hi j hj
 unfold qck
 split
 ·exact h a ha j hj
 ·split
  ·exact h k hk j hj
  ·exact h i hi j hj
def qct (W : World) (g : Nat) (z : Int) : Prop := ∃ (a : Option Addr) (m c : Nat) (b : Bool), W.heap[g]? = some (.cells #[.slice a m c, .bool b] 105 (0, 0)) ∧ IntAt W (.agg #[.slice a m c, .bool b]) z
theorem qct.below {W W' : World} {g : Nat} {z : Int} (h : qct W g z) (hb : Below W.heap.size W W') : qct W' g z := by
 obtain ⟨a, m, c, b, h1, h2⟩ := h
 exact ⟨a, m, c, b, (hb.block _ (qG h1).1).trans h1, h2.below hb⟩
theorem qct.keep {W W' : World} {g tb R n : Nat} {gs : Nat → Nat} {z : Int} (h : qct W g z) (hk : W.grownBy W' (some tb)) (ht : W.heap[tb]? = some (.cells (rowvs R n gs).toArray 79 (0, 0))) : qct W' g z := by
 obtain ⟨a, m, c, b, h1, x, e, h2⟩ := h
 have hne : g ≠ tb := by
  intro e
  subst e
  have := h1.symm.trans ht
  simp at this
 exact ⟨a, m, c, b, (hk.block _ (qG h1).1 (fun e => hne (qan e))).trans h1, x, e, qcC h2 hk ht qhl⟩
theorem qj2 {a : Option Addr} {m c : Nat} {b : Bool} : ∀ x ∈ (#[.slice a m c, .bool b] : Array Value).toList, ∀ d, x ≠ .int .u32 d := by
 intro x hx d e
 rcases qaL.1 hx with h | h
 ·rw [h] at e; cases e
 ·rw [qaq.1 h] at e; cases e
theorem qd5 (W : World) (g : Nat) (u v : Value) : W.grownBy ((W.setCell ⟨g, 0, none⟩ u).setCell ⟨g, 1, none⟩ v) (some g) := qca (least.qcb W g 0 u) (least.qcb _ g 1 v)
theorem qct.put {W : World} {g : Nat} {z0 z : Int} {a : Option Addr} {m c : Nat} {b : Bool} (h : qct W g z0) (hi : IntAt W (.agg #[.slice a m c, .bool b]) z) : qct ((W.setCell ⟨g, 0, none⟩ (.slice a m c)).setCell ⟨g, 1, none⟩ (.bool b)) g z := by
 obtain ⟨a0, m0, c0, b0, h1, _⟩ := h
 obtain ⟨x, e, hm⟩ := hi
 exact ⟨a, m, c, b, heap_setCell_same _ g 1 _ _ _ (heap_setCell_same _ g 0 _ _ _ h1), x, e, qcC hm (qd5 W g _ _) h1 qj2⟩
theorem qcx.put {W W' : World} {g g' n : Nat} {z0 : Int} {m : Nat → Int} (h : qcx W g' n m) (hb : qct W g z0) (hk : W.grownBy W' (some g)) (hne : g' ≠ g) : qcx W' g' n m := by
 obtain ⟨a0, m0, c0, b0, h1, _⟩ := hb
 obtain ⟨ps, p1, p2, p3⟩ := h
 exact ⟨ps, p1, ⟨(hk.block _ (qG p2.1).1 (fun e => hne (qan e))).trans p2.1, p2.2⟩, p3.keep hk h1 qj2⟩
theorem MatAt.put {W W' : World} {tb R n g : Nat} {gs : Nat → Nat} {M : Nat → Nat → Int} {z0 : Int} (h : MatAt W tb R n gs M) (hb : qct W g z0) (hk : W.grownBy W' (some g)) (hne : ∀ i, i < R → gs i ≠ g) : MatAt W' tb R n gs M := by
 refine ⟨?_, fun i hi => (h.rows i hi).put hb hk (hne i hi)⟩
 have : tb ≠ g := by
  intro e
  subst e
  obtain ⟨_, _, _, _, h1, _⟩ := hb
  have := h.row.symm.trans h1
  simp at this
 exact (hk.block _ (qG h.row).1 (fun e => this (qan e))).trans h.row
theorem qct.cells {W : World} {g : Nat} {z : Int} (h : qct W g z) : ∃ (a : Option Addr) (m c : Nat) (b : Bool), (W.cell? ⟨g, 0, none⟩ = some (.slice a m c) ∧ W.cell? ⟨g, 1, none⟩ = some (.bool b)) ∧ (W.frozen? ⟨g, 0, none⟩ = false ∧ W.frozen? ⟨g, 1, none⟩ = false) ∧ IntAt W (.agg #[.slice a m c, .bool b]) z := by
 obtain ⟨a, m, c, b, h1, h2⟩ := h
 exact ⟨a, m, c, b, ⟨cell_of_row _ _ 0 _ _ _ h1, cell_of_row _ _ 1 _ _ _ h1⟩, ⟨frozen_of_row _ _ 0 _ _ h1, frozen_of_row _ _ 1 _ _ h1⟩, h2⟩
theorem qcx.pair {W : World} {g n : Nat} {m : Nat → Int} (h : qcx W g n m) {c : Nat} (hc : c < n) : ∃ (a : Option Addr) (l k : Nat) (b : Bool), W.cell? ⟨g, c * 2, none⟩ = some (.slice a l k) ∧ W.cell? ⟨g, c * 2 + 1, none⟩ = some (.bool b) ∧ IntAt W (.agg #[.slice a l k, .bool b]) (m c) := by
 obtain ⟨ps, h1, h2, h3⟩ := h
 obtain ⟨d0, d1⟩ := qcx.cells h1 h2 c hc
 obtain ⟨a, l, k, b, e, hi⟩ := qdD h3 (k := c) (by omega)
 rw [e] at d0 d1
 exact ⟨a, l, k, b, d0, d1, hi⟩
theorem qct.lt {W : World} {g : Nat} {z : Int} (h : qct W g z) : g < W.heap.size := by
 obtain ⟨_, _, _, _, h1, _⟩ := h
 exact (qG h1).1
theorem qed {a b : World} {row : Option Nat} (h : a.grownBy b row) {p : Addr} (hp : a.heap.size ≤ p.block) (v : Value) : a.grownBy (b.setCell p v) row :=
 ⟨h.os, h.tape, h.output, by simpa [World.setCell] using h.size, fun i hi hne => (Below.heap_setCell b p v i (by omega)).trans (h.block i hi hne)⟩
theorem part_set {W : World} {tb R n k c i g : Nat} {D : Int} {gs : Nat → Nat} {M : Nat → Nat → Int} (h : MatAt W tb R n gs (qcS M k c D i)) (hi : k < i) (hg : qcx W g n (fun j => (qcS M k c D i k c * qcS M k c D i i j - qcS M k c D i i c * qcS M k c D i k j).tdiv D)) :
  MatAt (W.setCell ⟨tb, i, none⟩ (rowv g n)) tb R n (fun j => if j = i then g else gs j) (qcS M k c D (i + 1)) := by
 rw [(qhf M k c D i).1, (qhf M k c D i).2] at hg
 have := h.set i g _ hg
 rw [qme M k c D i hi] at this
 exact this
theorem qlI {R i g x : Nat} {gs : Nat → Nat} (h : ∀ j, j < R → gs j ≠ x) (hg : g ≠ x) : ∀ j, j < R → (fun j => if j = i then g else gs j) j ≠ x := by
 intro j hj
 by_cases e : j = i
 ·simp only [if_pos e]; exact hg
 ·simp only [if_neg e]; exact h j hj
theorem qjt {R k a x : Nat} {gs : Nat → Nat} (hk : k < R) (ha : a < R) (h : ∀ i, i < R → gs i ≠ x) : ∀ i, i < R → (fun j => if j = k then gs a else if j = a then gs k else gs j) i ≠ x := by
 intro i hi
 by_cases e : i = k
 ·simp only [if_pos e]; exact h a ha
 ·by_cases e2 : i = a
  ·simp only [if_neg e, if_pos e2]; exact h k hk
  ·simp only [if_neg e, if_neg e2]; exact h i hi
theorem qfz {W : World} {gi gk n c K : Nat} {mi mk : Nat → Int} {v0 : Value} {z0 : Int} (hK : K ≤ 34359738368) (hn : n ≤ 64) (hc : c < n) (hi : qcx W gi n mi) (hk : qcx W gk n mk) (hfi : ∀ j, j < n → Fit (mi j).natAbs K) (hfk : ∀ j, j < n → Fit (mk j).natAbs K) (h0 : IntAt W v0 z0) (hf0 : Fit z0.natAbs K) (hz0 : z0 ≠ 0) :
  Calls Tryz.prog 109 #[rowv gi n, rowv gk n, .int .i64 c, v0] W fun e W' => ∃ g, e = .returned (rowv g n) ∧ W.heap.size ≤ g ∧ Below W.heap.size W W' ∧ qcx W' g n (fun j => (mk c * mi j - mi c * mk j).tdiv z0) := by
 obtain ⟨ps, p1, p2, p3⟩ := hi
 obtain ⟨qs, q1, q2, q3⟩ := hk
 refine (qiA gi gk n n n c ps qs mi mk K hK v0 z0 W hn hc p1 q1 (qcx.cells p1 p2) (qcx.cells q1 q2) p3 q3 hfi hfk h0 hf0 hz0).mono ?_
 rintro e W' ⟨g, rs, rfl, hg, hb, hrl, hrow, hps⟩
 exact ⟨g, rfl, hg, hb, rs, hrl, hrow, hps⟩
theorem rank_any (tb R n K : Nat) (gs : Nat → Nat) (A : Nat → Nat → Int) (w : World) (hR0 : 0 < R) (hR : R ≤ 1024) (hn : n ≤ 10) (hK : K ≤ 33554430) (hK0 : 0 < K) (hM : MatAt w tb R n gs A) (hgs : ∀ i, i < R → gs i < w.heap.size) (hF : ∀ i, i < R → ∀ j, j < n → Fit (A i j).natAbs K) :
  Calls Tryz.prog 51 #[.slice (some ⟨tb, 0, none⟩) R R] w fun e w' => ∃ k : Nat, e = .returned (.int .i64 k) ∧ w.grownBy w' (some tb) ∧ qcy R n (castM A) k := by
 have HM := qH (qA hM (qA hgs hF))
 have htb : tb < w.heap.size := (qG hM.row).1
 have hR0i : (0 : Int) < R := by omega
 clear hM hF hgs
 go_enter Tryz.func51, Tryz.ntmps51
 go_wp2_with fail
 go_loopw [4, 5] (fun x4 x5 W => ∃ (k c : Nat) (D : Int) (gs : Nat → Nat) (M : Nat → Nat → Int), k ≤ R ∧ k ≤ c ∧ c ≤ n ∧ x4 = .int .i64 k ∧ x5 = .int .i64 c ∧ Hid (RankSt R n k c D M A) ∧ Hid (MatAt W tb R n gs M ∧ ∀ i, i < R → gs i ≠ w.heap.size + 1) ∧ Hid (qct W (w.heap.size + 1) D) ∧ Hid (w.grownBy W (some tb)) ∧ Hid (Fit D.natAbs (KK K k) ∧ ∀ i, i < R → ∀ j, j < n → Fit (M i j).natAbs (KK K k))) (fun _ x5 _ => n - (intOf x5).toNat)
 case atStart =>
  have hb : Below w.heap.size w ((w.alloc (.cells #[.int .u32 1] 106)).alloc (.cells #[.slice (some ⟨w.heap.size, 0, none⟩) 1 1, .bool false] 105)) := qb1 (qb1 qB qN) qN
  refine ⟨0, 0, 1, gs, A, qar _, qaf _, qar _, rfl, rfl, qH (RankSt.start _ _ _), qH ⟨HM.out.1.below hb, fun i hi => by have := HM.out.2.1 i hi; omega⟩, qH ⟨_, _, _, _, qM _ _ _ (by simp), _, rfl, ?_⟩, qH (qcd _ hb), qH ⟨?_, fun i hi j hj => by rw [qhZ]; exact HM.out.2.2 i hi j hj⟩⟩
  ·exact (qei w _ (by decide) (by decide)).below (qb1 qB qN)
  ·rw [qhZ]
   exact Fit.mono (show Fit 1 1 by show 1 < 1000000000 ^ 1; decide) hK0
 case round =>
  obtain ⟨k, c, D, gs1, M, hk, hkc, hc, rfl, rfl, hS, hMt, hI, hG, hFt⟩ := hrel
  obtain ⟨c0, f0⟩ := hMt.out.1.cell hR0
  by_cases hcn : c < n
  ·have hcni : (c : Int) < n := by omega
   by_cases hkR : k < R
   ·have hkRi : (k : Int) < R := by omega
    go_wp2_with fail
    refine (qiX tb R n k c gs1 M _ hR hkR hcn (by omega) hMt.out.1).mono ?_
    rintro e w2 (⟨rfl, hw, h0⟩ | ⟨rfl, hg2, a, hka, haR, hne, hM2⟩)
    ·subst hw
     have H0 := qH h0
     clear h0
     go_wp2_with fail
     go_roundw
     case rel => exact ⟨k, c + 1, D, gs1, M, hk, by omega, hcn, rfl, by go_num, qH (hS.out.none H0.out), hMt, hI, hG, hFt⟩
     case measure => simp [intOf]; omega
    ·have HS2 := qH (hS.out.swap hka haR)
     have HI2 := qH (hI.out.keep hg2 hMt.out.1.row)
     have HG2 := qH (qca hG.out hg2)
     have HF2 := qH (qA hFt.out.1 (qkz hkR haR hFt.out.2))
     have HN2 := qH (show qck M k a k c ≠ 0 by unfold qck; rw [if_pos rfl]; exact hne)
     obtain ⟨gs2, hgs2⟩ : ∃ gs2, gs2 = (fun j => if j = k then gs1 a else if j = a then gs1 k else gs1 j) := ⟨_, rfl⟩
     have hgd := qjt hkR haR hMt.out.2
     rw [← hgs2] at hM2 hgd
     have hM2' : MatAt w2 tb R n gs2 (qck M k a) := hM2
     obtain ⟨M2, hM2e⟩ : ∃ M2, M2 = qck M k a := ⟨_, rfl⟩
     rw [← hM2e] at hM2' HS2 HF2 HN2
     have HM2 := qH (qA hM2' hgd)
     clear hM2 hM2' hgs2 hM2e hne hg2 hgd c0 f0 hS hMt hI hG hFt
     go_wp2_with fail
     go_loopw [6] (fun x6 W => ∃ (i : Nat) (gs : Nat → Nat), k < i ∧ i ≤ R ∧ x6 = .int .i64 i ∧ Hid (MatAt W tb R n gs (qcS M2 k c D i) ∧ ∀ i, i < R → gs i ≠ w.heap.size + 1) ∧ Hid (qct W (w.heap.size + 1) D) ∧ Hid (w.grownBy W (some tb))) (fun x6 _ => R - (intOf x6).toNat)
     case atStart => exact ⟨k + 1, gs2, by omega, by omega, by go_num, qH ⟨by rw [qkU]; exact HM2.out.1, HM2.out.2⟩, HI2, HG2⟩
     case round =>
      obtain ⟨i, gs3, hki, hiR, rfl, hM3, hI3, hG3⟩ := hrel
      by_cases hi : i < R
      ·have hii : (i : Int) < R := by omega
       obtain ⟨ci, fi⟩ := hM3.out.1.cell hi
       obtain ⟨ck, fk⟩ := hM3.out.1.cell hkR
       obtain ⟨a, m, d, b, ⟨e0, e1⟩, _, hin⟩ := hI3.out.cells
       have HC := qH (fun W (h : Below wr.heap.size wr W) => qfz (KK_le hK (show k ≤ 10 by omega)) (show n ≤ 64 by omega) hcn ((hM3.out.1.below h).rows i hi) ((hM3.out.1.below h).rows k hkR) (by rw [(qhf M2 k c D i).1]; exact HF2.out.2 i hi) (by rw [(qhf M2 k c D i).2]; exact HF2.out.2 k hkR) (hin.below h) HF2.out.1 HS2.out.nz)
       have hstD : Below wr.heap.size wr wr.drew := qB.drew
       clear hin
       go_wp2_with fail
       go_region_with (first | (go_at_call 109; refine (HC.out _ hstD).mono ?_; rintro e w4 ⟨g, rfl, hg4, hb4, hr4⟩; have hb := hstD.trans hb4; obtain ⟨q0, q1⟩ := (hM3.out.1.below hb).cell hi; have HX := qH (qA (hM3.out.1.below hb) (qA (hI3.out.below hb) (qA hg4 (qA hr4 (qdh hG3.out hb))))); clear hb4 hr4 hb))
       all_goals go_wp2_with fail
       all_goals go_roundw
       all_goals first
        | exact ⟨i + 1, _, by omega, hi, by go_num, qH ⟨part_set HX.out.1 hki HX.out.2.2.2.1, qlI hM3.out.2 (qbK (qak hI3.out.lt HX.out.2.2.1))⟩, qH (HX.out.2.1.keep (least.qcb _ _ _ _) HX.out.1.row), qH (qca HX.out.2.2.2.2 (least.qcb _ _ _ _))⟩
        | (simp [intOf]; omega)
      ·obtain rfl : i = R := by omega
       obtain ⟨ck, fk⟩ := hM3.out.1.cell hkR
       obtain ⟨a, m, d, b, ⟨e0, e1⟩, ⟨z0, z1⟩, _⟩ := hI3.out.cells
       obtain ⟨a2, m2, d2, b2, p0, p1, hin⟩ := (hM3.out.1.rows k hkR).pair hcn
       rw [(qhf M2 k c D i).2] at hin
       have HX := qH hin
       clear hin
       go_wp2_with fail
       go_roundw
       case rel =>
        refine ⟨k + 1, c + 1, M2 k c, gs3, qcg (fun i => decide (k < i)) M2 k c D, by omega, by omega, hcn, by go_num, by go_num, qH (HS2.out.next hkR hcn HN2.out), qH ⟨(hM3.out.1.put hI3.out (qd5 _ _ _ _) hM3.out.2).congr (fun _ _ => rfl) (part_end M2 k c D i), hM3.out.2⟩, qH (hI3.out.put HX.out), qH ?_, qH ⟨?_, ?_⟩⟩
        ·exact qed (qed hG3.out (qbb _) _) (qbb _) _
        ·rw [qhY]; exact (HF2.out.2 k hkR c hcn).mono (by omega)
        ·rw [qhY]; exact part_fit hkR hcn HF2.out.2
       case measure => simp [intOf]; omega
   ·go_wp2_with fail
    go_ret
    exact ⟨k, rfl, hG.out, hS.out.done hk hc (qas (by omega))⟩
  ·go_wp2_with fail
   go_ret
   exact ⟨k, rfl, hG.out, hS.out.done hk hc (qaA (by omega))⟩
def epart (M : Nat → Nat → Int) (k : Nat) (D : Int) (i : Nat) : Nat → Nat → Int := qcg (fun j => decide (j < i)) M k k D
theorem qjs (M : Nat → Nat → Int) (k : Nat) (D : Int) : epart M k D 0 = M := by
 funext j
 unfold epart qcg
 rw [if_neg]
 intro h
 have := of_decide_eq_true h.1
 omega
theorem qfC (M : Nat → Nat → Int) (k : Nat) (D : Int) (i : Nat) : epart M k D i i = M i ∧ epart M k D i k = M k := by
 unfold epart qcg
 constructor
 ·rw [if_neg]; intro h; have := of_decide_eq_true h.1; omega
 ·rw [if_neg]; intro h; exact h.2 rfl
theorem qkC (M : Nat → Nat → Int) (k : Nat) (D : Int) (i : Nat) (hi : i ≠ k) : (fun j => if j = i then (fun x => (M k k * M i x - M i k * M k x).tdiv D) else epart M k D i j) = epart M k D (i + 1) := by
 funext j
 by_cases e : j = i
 ·subst e
  rw [if_pos rfl]
  unfold epart qcg
  rw [if_pos ⟨decide_eq_true (by omega), hi⟩]
 ·rw [if_neg e]
  unfold epart qcg
  have h : decide (j < i) = decide (j < i + 1) := decide_eq_decide.2 (by omega)
  simp only [h]
theorem qkD (M : Nat → Nat → Int) (k : Nat) (D : Int) : epart M k D k = epart M k D (k + 1) := by
 funext j
 unfold epart qcg
 by_cases e : j = k
 ·rw [if_neg (fun h => h.2 e), if_neg (fun h => h.2 e)]
 ·have h : decide (j < k) = decide (j < k + 1) := decide_eq_decide.2 (by omega)
  simp only [h]
theorem qlz (M : Nat → Nat → Int) (k : Nat) (D : Int) (R : Nat) : ∀ j, j < R → epart M k D R j = qcg (fun _ => true) M k k D j := by
 intro j hj
 unfold epart qcg
 simp only [decide_eq_true hj]
theorem qlA {M : Nat → Nat → Int} {k : Nat} {D : Int} {R n K : Nat} (hk : k < R) (hc : k < n) (h : ∀ i, i < R → ∀ j, j < n → Fit (M i j).natAbs K) : ∀ i, i < R → ∀ j, j < n → Fit (qcg (fun _ => true) M k k D i j).natAbs (K + K + 1) := by
 intro i hi j hj
 unfold qcg
 split
 ·exact qjZ (h k hk k hc) (h i hi j hj) (h i hi k hc) (h k hk j hj)
 ·exact (h i hi j hj).mono (by omega)
theorem qlB {W : World} {tb R n k i g : Nat} {D : Int} {gs : Nat → Nat} {M : Nat → Nat → Int} (h : MatAt W tb R n gs (epart M k D i)) (hi : i ≠ k) (hg : qcx W g n (fun j => (epart M k D i k k * epart M k D i i j - epart M k D i i k * epart M k D i k j).tdiv D)) :
  MatAt (W.setCell ⟨tb, i, none⟩ (rowv g n)) tb R n (fun j => if j = i then g else gs j) (epart M k D (i + 1)) := by
 rw [(qfC M k D i).1, (qfC M k D i).2] at hg
 have := h.set i g _ hg
 rw [qkC M k D i hi] at this
 exact this
theorem qct.other {W : World} {g g' : Nat} {z z0 : Int} {u v : Value} (h : qct W g z) (h' : qct W g' z0) (hne : g ≠ g') : qct ((W.setCell ⟨g', 0, none⟩ u).setCell ⟨g', 1, none⟩ v) g z := by
 obtain ⟨a, m, c, b, h1, x, e, h2⟩ := h
 obtain ⟨_, _, _, _, k1, _⟩ := h'
 have hk := qd5 W g' u v
 exact ⟨a, m, c, b, (hk.block _ (qG h1).1 (fun e => hne (qan e))).trans h1, x, e, qcC h2 hk k1 qj2⟩
theorem qct.row2 {W : World} {g : Nat} {z0 z : Int} {a : Option Addr} {m c : Nat} {b : Bool} (h : qct W g z0) (hi : IntAt W (.agg #[.slice a m c, .bool b]) z) : ((W.setCell ⟨g, 0, none⟩ (.slice a m c)).setCell ⟨g, 1, none⟩ (.bool b)).heap[g]? = some (.cells #[.slice a m c, .bool b] 105 (0, 0)) ∧ IntAt ((W.setCell ⟨g, 0, none⟩ (.slice a m c)).setCell ⟨g, 1, none⟩ (.bool b)) (.agg #[.slice a m c, .bool b]) z := by
 obtain ⟨a0, m0, c0, b0, h1, _⟩ := h
 obtain ⟨x, e, hm⟩ := hi
 exact ⟨heap_setCell_same _ g 1 _ _ _ (heap_setCell_same _ g 0 _ _ _ h1), x, e, qcC hm (qd5 W g _ _) h1 qj2⟩
theorem qct.zero {W : World} {g : Nat} {z0 : Int} (h : qct W g z0) : ((W.setCell ⟨g, 0, none⟩ (.slice none 0 0)).setCell ⟨g, 1, none⟩ (.bool false)).heap[g]? = some (.cells #[.slice none 0 0, .bool false] 105 (0, 0)) :=
 (h.row2 (z := 0) ⟨_, rfl, MagAt.nil _⟩).1
def ElmAs (w : World) (tb R n K : Nat) (A : Nat → Nat → Int) (e : Ending) (w' : World) : Prop :=
  ∃ (v : Value) (z : Int), e = .returned v ∧ IntAt w' v z ∧ w.grownBy w' (some tb) ∧
    ((z = 0 ∧ ∃ (k : Nat) (D : Int) (M : Nat → Nat → Int), k < R ∧ ElimSt R n k D M A ∧ ∀ i, k ≤ i → i < R → M i k = 0) ∨
     (Fit z.natAbs (KK K R) ∧ ∃ (gs : Nat → Nat) (M : Nat → Nat → Int), MatAt w' tb R n gs M ∧ ElimSt R n R z M A ∧ ∀ i, i < R → ∀ j, j < n → Fit (M i j).natAbs (KK K R)))
theorem elim_any (tb R n K : Nat) (gs : Nat → Nat) (A : Nat → Nat → Int) (w : World) (hR0 : 0 < R) (hR : R ≤ 10) (hRn : R ≤ n) (hn : n ≤ 11) (hK : K ≤ 33554430) (hK0 : 0 < K) (hM : MatAt w tb R n gs A) (hgs : ∀ i, i < R → gs i < w.heap.size) (hF : ∀ i, i < R → ∀ j, j < n → Fit (A i j).natAbs K) :
  Calls Tryz.prog 112 #[.slice (some ⟨tb, 0, none⟩) R R] w fun e w' => ElmAs w tb R n K A e w' := by
 have HM := qH (qA hM (qA hgs hF))
 have htb : tb < w.heap.size := (qG hM.row).1
 have hR0i : (0 : Int) < R := by omega
 clear hM hF hgs
 go_enter Tryz.func112, Tryz.ntmps112
 go_wp2_with fail
 go_loopw [10] (fun x10 W => ∃ (k : Nat) (D : Int) (gs : Nat → Nat) (M : Nat → Nat → Int), k ≤ R ∧ x10 = .int .i64 k ∧ Hid (ElimSt R n k D M A) ∧ Hid (MatAt W tb R n gs M ∧ (∀ i, i < R → gs i ≠ w.heap.size + 1 + 1) ∧ ∀ i, i < R → gs i ≠ w.heap.size) ∧ Hid (qct W (w.heap.size + 1 + 1) D ∧ qct W w.heap.size 0) ∧ Hid (w.grownBy W (some tb)) ∧ Hid (Fit D.natAbs (KK K k) ∧ ∀ i, i < R → ∀ j, j < n → Fit (M i j).natAbs (KK K k))) (fun x10 _ => R - (intOf x10).toNat)
 case atStart =>
  have hb : Below w.heap.size w (((w.alloc (.cells #[.slice none 0 0, .bool false] 105)).alloc (.cells #[.int .u32 1] 106)).alloc (.cells #[.slice (some ⟨w.heap.size + 1, 0, none⟩) 1 1, .bool false] 105)) := qb1 (qb1 (qb1 qB qN) qN) qN
  refine ⟨0, 1, gs, A, qar _, rfl, qH (ElimSt.start _ _ _), qH ⟨HM.out.1.below hb, fun i hi => by have := HM.out.2.1 i hi; omega, fun i hi => by have := HM.out.2.1 i hi; omega⟩, qH ⟨⟨_, _, _, _, qM _ _ _ (by simp), _, rfl, ?_⟩, ⟨_, _, _, _, (qL _ _ _ (by simp only [qab]; omega)).trans ((qL _ _ _ (by simp only [qab]; omega)).trans (qM _ _ _ rfl)), _, rfl, MagAt.nil _⟩⟩, qH (qcd _ hb), qH ⟨?_, fun i hi j hj => by rw [qhZ]; exact HM.out.2.2 i hi j hj⟩⟩
  ·have := (qei (w.alloc (.cells #[.slice none 0 0, .bool false] 105)) 106 (s := 1) (by decide) (by decide)).below (qb1 (o := .cells #[.slice (some ⟨w.heap.size + 1, 0, none⟩) 1 1, .bool false] 105) qB qN)
   rw [qab] at this
   exact this
  ·rw [qhZ]
   exact Fit.mono (show Fit 1 1 by show 1 < 1000000000 ^ 1; decide) hK0
 case round =>
  obtain ⟨k, D, gs1, M, hk, rfl, hS, hMt, hI, hG, hFt⟩ := hrel
  by_cases hkR : k < R
  ·have hkRi : (k : Int) < R := by omega
   have hkn : k < n := by omega
   go_wp2_with fail
   refine (qiX tb R n k k gs1 M _ (by omega) hkR hkn (by omega) hMt.out.1).mono ?_
   rintro e w2 (⟨rfl, hw, h0⟩ | ⟨rfl, hg2, a, hka, haR, hne, hM2⟩)
   ·subst hw
    have H0 := qH h0
    obtain ⟨a, m, d, b, ⟨e0, e1⟩, ⟨z0, z1⟩, _⟩ := hI.out.2.cells
    have hput := hI.out.2.zero
    have hkp := qed (qed hG.out qN (p := ⟨w.heap.size, 0, none⟩) (.slice none 0 0)) qN (p := ⟨w.heap.size, 1, none⟩) (.bool false)
    have HX := qH (qA hput hkp)
    clear h0 hput hkp
    go_wp2_with fail
    exact bodyPost_ret (v := .agg #[.slice none 0 0, .bool false]) (qb9 rfl _ _ w.heap.size 105 _ _ rfl HX.out.1 Tryz.underlying105 rfl 2 (by kernel_rfl) rfl) rfl ⟨_, 0, rfl, ⟨_, rfl, MagAt.nil _⟩, HX.out.2, qaA ⟨rfl, k, D, M, hkR, hS.out, H0.out⟩⟩
   ·have HS2 := qH (hS.out.swap hka haR)
    have HI2 := qH (qA (hI.out.1.keep hg2 hMt.out.1.row) (hI.out.2.keep hg2 hMt.out.1.row))
    have HG2 := qH (qca hG.out hg2)
    have HF2 := qH (qA hFt.out.1 (qkz hkR haR hFt.out.2))
    have HN2 := qH (show qck M k a k k ≠ 0 by unfold qck; rw [if_pos rfl]; exact hne)
    obtain ⟨gs2, hgs2⟩ : ∃ gs2, gs2 = (fun j => if j = k then gs1 a else if j = a then gs1 k else gs1 j) := ⟨_, rfl⟩
    have hgd := qjt hkR haR hMt.out.2.1
    have hgd' := qjt hkR haR hMt.out.2.2
    rw [← hgs2] at hM2 hgd hgd'
    have hM2' : MatAt w2 tb R n gs2 (qck M k a) := hM2
    obtain ⟨M2, hM2e⟩ : ∃ M2, M2 = qck M k a := ⟨_, rfl⟩
    rw [← hM2e] at hM2' HS2 HF2 HN2
    have HM2 := qH (qA hM2' (qA hgd hgd'))
    clear hM2 hM2' hgs2 hM2e hne hg2 hgd hgd' hS hMt hI hG hFt
    go_wp2_with fail
    go_loopw [21] (fun x21 W => ∃ (i : Nat) (gs : Nat → Nat), i ≤ R ∧ x21 = .int .i64 i ∧ Hid (MatAt W tb R n gs (epart M2 k D i) ∧ (∀ i, i < R → gs i ≠ w.heap.size + 1 + 1) ∧ ∀ i, i < R → gs i ≠ w.heap.size) ∧ Hid (qct W (w.heap.size + 1 + 1) D ∧ qct W w.heap.size 0) ∧ Hid (w.grownBy W (some tb))) (fun x21 _ => R - (intOf x21).toNat)
    case atStart => exact ⟨0, gs2, qar _, rfl, qH ⟨by rw [qjs]; exact HM2.out.1, HM2.out.2⟩, HI2, HG2⟩
    case round =>
     obtain ⟨i, gs3, hiR, rfl, hM3, hI3, hG3⟩ := hrel
     by_cases hi : i < R
     ·have hii : (i : Int) < R := by omega
      by_cases hik : i = k
      ·have hike : ((i : Int) != (k : Int)) = false := by simp [hik]
       have Hsk := qH (show epart M2 k D i = epart M2 k D (i + 1) by rw [hik]; exact qkD M2 k D)
       clear hik
       go_wp2_with fail
       go_roundw
       case rel => exact ⟨i + 1, gs3, hi, by go_num, qH ⟨by rw [← Hsk.out]; exact hM3.out.1, hM3.out.2⟩, hI3, hG3⟩
       case measure => simp [intOf]; omega
      ·have hike : ((i : Int) != (k : Int)) = true := by rw [bne_iff_ne]; omega
       have Hik := qH hik
       clear hik
       obtain ⟨ci, fi⟩ := hM3.out.1.cell hi
       obtain ⟨ck, fk⟩ := hM3.out.1.cell hkR
       obtain ⟨a, m, d, b, ⟨e0, e1⟩, _, hin⟩ := hI3.out.1.cells
       have HC := qH (fun W (h : Below wr.heap.size wr W) => qfz (KK_le hK (show k ≤ 10 by omega)) (show n ≤ 64 by omega) hkn ((hM3.out.1.below h).rows i hi) ((hM3.out.1.below h).rows k hkR) (by rw [(qfC M2 k D i).1]; exact HF2.out.2 i hi) (by rw [(qfC M2 k D i).2]; exact HF2.out.2 k hkR) (hin.below h) HF2.out.1 HS2.out.nz)
       have hstD : Below wr.heap.size wr wr.drew := qB.drew
       clear hin
       go_wp2_with fail
       go_region_with (first | (go_at_call 109; refine (HC.out _ hstD).mono ?_; rintro e w4 ⟨g, rfl, hg4, hb4, hr4⟩; have hb := hstD.trans hb4; obtain ⟨q0, q1⟩ := (hM3.out.1.below hb).cell hi; have HX := qH (qA (hM3.out.1.below hb) (qA (qA (hI3.out.1.below hb) (hI3.out.2.below hb)) (qA hg4 (qA hr4 (qdh hG3.out hb))))); clear hb4 hr4 hb))
       all_goals go_wp2_with fail
       all_goals go_roundw
       all_goals first
        | exact ⟨i + 1, _, hi, by go_num, qH ⟨qlB HX.out.1 Hik.out HX.out.2.2.2.1, qlI hM3.out.2.1 (qbK (qak hI3.out.1.lt HX.out.2.2.1)), qlI hM3.out.2.2 (qbK (qak hI3.out.2.lt HX.out.2.2.1))⟩, qH ⟨HX.out.2.1.1.keep (least.qcb _ _ _ _) HX.out.1.row, HX.out.2.1.2.keep (least.qcb _ _ _ _) HX.out.1.row⟩, qH (qca HX.out.2.2.2.2 (least.qcb _ _ _ _))⟩
        | (simp [intOf]; omega)
     ·obtain rfl : i = R := by omega
      obtain ⟨ck, fk⟩ := hM3.out.1.cell hkR
      obtain ⟨a, m, d, b, ⟨e0, e1⟩, ⟨z0, z1⟩, _⟩ := hI3.out.1.cells
      obtain ⟨a2, m2, d2, b2, p0, p1, hin⟩ := (hM3.out.1.rows k hkR).pair hkn
      rw [(qfC M2 k D i).2] at hin
      have HX := qH hin
      clear hin
      go_wp2_with fail
      go_roundw
      case rel =>
       refine ⟨k + 1, M2 k k, gs3, qcg (fun _ => true) M2 k k D, by omega, by go_num, qH (HS2.out.next hkR hkn HN2.out), qH ⟨(hM3.out.1.put hI3.out.1 (qd5 _ _ _ _) hM3.out.2.1).congr (fun _ _ => rfl) (qlz M2 k D i), hM3.out.2⟩, qH ⟨hI3.out.1.put HX.out, hI3.out.2.other hI3.out.1 (by omega)⟩, qH ?_, qH ⟨?_, ?_⟩⟩
       ·exact qed (qed hG3.out (qah (qbb _)) _) (qah (qbb _)) _
       ·rw [qhY]; exact (HF2.out.2 k hkR k hkn).mono (by omega)
       ·rw [qhY]; exact qlA hkR hkn HF2.out.2
      case measure => simp [intOf]; omega
  ·obtain rfl : k = R := by omega
   obtain ⟨a, m, d, b, ⟨e0, e1⟩, _, hin⟩ := hI.out.1.cells
   obtain ⟨a2, m2, d2, b2, ⟨p0, p1⟩, ⟨z0, z1⟩, _⟩ := hI.out.2.cells
   have hput := hI.out.2.row2 hin
   have hkp := qed (qed hG.out qN (p := ⟨w.heap.size, 0, none⟩) (.slice a m d)) qN (p := ⟨w.heap.size, 1, none⟩) (.bool b)
   have hmt := hMt.out.1.put hI.out.2 (qd5 _ _ (.slice a m d) (.bool b)) hMt.out.2.2
   have HX := qH (qA hput (qA hkp hmt))
   clear hin hput hkp hmt
   go_wp2_with fail
   exact bodyPost_ret (v := .agg #[.slice a m d, .bool b]) (qb9 rfl _ _ w.heap.size 105 _ _ rfl HX.out.1.1 Tryz.underlying105 rfl 2 (by kernel_rfl) rfl) rfl ⟨_, D, rfl, HX.out.1.2, HX.out.2.1, qas ⟨hFt.out.1, gs1, M, HX.out.2.2, hS.out, hFt.out.2⟩⟩
end Go.Proofs.YtfminfgabiipjaaGreatDoor
