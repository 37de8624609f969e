/- Walks: the reference's More. -/
import Derived.Test.YtfhddcjepgjfnaaDoorA20
import Derived.Test.YtfhddcjepgjfnaaDoorA10
import Derived.Test.YtfhddcjepgjfnaaDoorA16
namespace Go.Proofs.YtfhddcjepgjfnaaDoor
open Go.RowKit Md

/-- What stays while a result is written into block B + 1: block B, and all that was before. -/
def Kp (B : Nat) (w1 W : World) : Prop := W.heap[B]? = w1.heap[B]? ∧ Below B w1 W
theorem Kp.refl (B : Nat) (w1 : World) : Kp B w1 w1 := ⟨rfl, Below.refl _ _⟩
theorem Kp.drew {B : Nat} {w1 W : World} (h : Kp B w1 W) : Kp B w1 W.drew := ⟨h.1, h.2.drew⟩
theorem Kp.set {B : Nat} {w1 W : World} (h : Kp B w1 W) (j : Nat) (v : Value) : Kp B w1 (W.setCell ⟨B + 1, j, none⟩ v) :=
  ⟨(Below.heap_setCell _ _ _ _ (by show B ≠ B + 1; omega)).trans h.1, h.2.setCell (by show B ≤ B + 1; omega) _⟩
theorem Kp.call {B : Nat} {w1 W W2 : World} (h : Kp B w1 W) (hB : B < W.heap.size) (h2 : Below W.heap.size W W2) : Kp B w1 W2 :=
  ⟨(h2.block _ hB).trans h.1, h.2.trans (h2.mono (Nat.le_of_lt hB))⟩
theorem Kp.at {B : Nat} {w1 W : World} (h : Kp B w1 W) {cs : Array Value} {t : TypeId} (hd : w1.heap[B]? = some (.cells cs t (0, 0))) (j : Nat) : W.cell? ⟨B, j, none⟩ = cs[j]? :=
  cell_of_row _ _ _ _ _ _ (h.1.trans hd)

set_option maxRecDepth 100000 in
set_option maxHeartbeats 1000000 in
theorem moreI_no (a b c d n : Int) (r x : ByteArray) (h : vald a b c d n r = false) (w : World) :
    Calls Tryd.prog 18 #[.agg #[.int .i64 a, .int .i64 b, .int .i64 c, .int .i64 d, .int .i64 n, .string r], .string x] w fun e w' => e = .returned (.tuple #[.agg zdv, .int .i64 80]) ∧ Below w.heap.size w w' := by
  have H := Lib.hid h
  clear h
  go_enter Tryd.func18, Tryd.ntmps18
  go_wp2_with fail
  refine (right_any a b c d n r _).mono ?_
  rintro e w1 ⟨rfl, hB1⟩
  rw [H.out]
  have HB1 : Hid (Below w.heap.size w w1) := Lib.hid ((((Below.refl _ w).alloc (Nat.le_refl _) _).alloc (by simp) _).trans (hB1.mono (by simp; omega)))
  have HZ1 : Hid (w1.heap[w.heap.size + 1]? = some (.cells zdv 41 (0, 0))) := Lib.hid ((hB1.block _ (by simp)).trans (heap_alloc_at _ _ _ (by simp)))
  clear hB1
  go_wp2_with ((with_reducible refine wpList_store_row rfl 41 _ _ rfl (w.heap.size + 1) (zdv) ?_ ?_ 41 _ HZ1.out 6 ?_ ?_ ?_ ?_ ?_); (next => rfl); (next => rfl); (next => kernel_rfl); (next => rfl); (next => rfl); (next => rfl))
  exact bodyPost_ret (v := .tuple #[.agg zdv, .int .i64 80]) (results_row2 rfl _ _ (w.heap.size + 1) 41 zdv _ rfl (setRow_heap _ _ _ _ _ _ HZ1.out) Tryd.underlying41 rfl 6 (by kernel_rfl) rfl (.int .i64 80) rfl) rfl ⟨rfl, below_setRow HB1.out (by omega) _⟩

set_option maxRecDepth 100000 in
set_option maxHeartbeats 1000000 in
theorem moreI_yes (s : St) (hs : s.ok) (n : Nat) (hn : n ≤ 65536) (r : ByteArray) (hr : r.size = n % 64) (x : ByteArray) (hx : x.size ≤ 140737488355328) (w : World) :
    Calls Tryd.prog 18 #[.agg #[.int .i64 s.a, .int .i64 s.b, .int .i64 s.c, .int .i64 s.d, .int .i64 n, .string r], .string x] w fun e w' => e = .returned (moreRes s n r x) ∧ Below w.heap.size w w' := by
  have HS := Lib.hid hs
  have HR := Lib.hid hr
  have H := Lib.hid (vald_nat s hs n hn r hr)
  have hrs : r.size < 64 := by omega
  clear hs hr
  go_enter Tryd.func18, Tryd.ntmps18
  go_wp2_with fail
  refine (right_any s.a s.b s.c s.d n r _).mono ?_
  rintro e w1 ⟨rfl, hB1⟩
  rw [H.out]
  have HB1 : Hid (Below w.heap.size w w1) := Lib.hid ((((Below.refl _ w).alloc (Nat.le_refl _) _).alloc (by simp) _).trans (hB1.mono (by simp; omega)))
  have HZ1 : Hid (w1.heap[w.heap.size + 1]? = some (.cells zdv 41 (0, 0))) := Lib.hid ((hB1.block _ (by simp)).trans (heap_alloc_at _ _ _ (by simp)))
  have HD1 : Hid (w1.heap[w.heap.size]? = some (.cells #[.int .i64 s.a, .int .i64 s.b, .int .i64 s.c, .int .i64 s.d, .int .i64 n, .string r] 41 (0, 0))) := Lib.hid ((hB1.block _ (by simp; omega)).trans ((heap_alloc_lt _ _ _ (by simp)).trans (heap_alloc_at _ _ _ rfl)))
  have hlt1 : w.heap.size + 1 < w1.heap.size := (Array.getElem?_eq_some_iff.1 HZ1.out).1
  have hlt0 : w.heap.size < w1.heap.size := by omega
  have d4 : w1.cell? ⟨w.heap.size, 4, none⟩ = some (.int .i64 n) := cell_of_row _ _ 4 _ _ _ HD1.out
  clear hB1
  by_cases hlong : 65536 < n + x.size
  · have hd : (65536 : Int) < n + x.size := by omega
    have HL := Lib.hid hlong
    clear hlong
    go_wp2_with ((with_reducible refine wpList_store_row rfl 41 _ _ rfl (w.heap.size + 1) (zdv) ?_ ?_ 41 _ HZ1.out 6 ?_ ?_ ?_ ?_ ?_); (next => rfl); (next => rfl); (next => kernel_rfl); (next => rfl); (next => rfl); (next => rfl))
    exact bodyPost_ret (v := .tuple #[.agg zdv, .int .i64 3]) (results_row2 rfl _ _ (w.heap.size + 1) 41 zdv _ rfl (setRow_heap _ _ _ _ _ _ HZ1.out) Tryd.underlying41 rfl 6 (by kernel_rfl) rfl (.int .i64 3) rfl) rfl ⟨ret_eq (moreRes_long s n r x HL.out).symm, below_setRow HB1.out (by omega) _⟩
  · have hd : decide ((65536 : Int) < n + x.size) = false := by rw [decide_eq_false_iff_not]; omega
    have hxs : x.size ≤ 65536 := by omega
    have HL := Lib.hid hlong
    have d5 : w1.cell? ⟨w.heap.size, 5, none⟩ = some (.string r) := cell_of_row _ _ 5 _ _ _ HD1.out
    have hadd : ∀ W, (Op.stringOp .add r x).run Tryd.prog W = .ok (.string (r ++ x)) W := fun W => run_string_add W _ _ (by omega) (by omega)
    have hszz : (r ++ x).size = r.size + x.size := ByteArray.size_append
    obtain ⟨y, hy⟩ : ∃ y, r ++ x = y := ⟨_, rfl⟩
    rw [hy] at hadd hszz
    have hys : y.size ≤ 65600 := by omega
    obtain ⟨t, ht⟩ : ∃ t, changed s (asc y.data.toList) = t := ⟨_, rfl⟩
    have hok : Hid t.ok := ht ▸ changed_ok _ HS.out _
    have hq : y.extract (y.size - y.size % 64) y.size = y.extract (y.size - y.size % 64) y.size := rfl
    have HM : Hid (∀ W : World, _) := fun (W : World) => changedI_any s HS.out y W
    rw [ht] at HM
    have HY := Lib.hid hy
    have HSZ := Lib.hid hszz
    have Ht := Lib.hid ht
    clear hlong hy ht hszz hq
    go_wp2_with fail
    clear d4 d5
    have D0 : ∀ W, Kp w.heap.size w1 W → W.cell? ⟨w.heap.size, 0, none⟩ = some (.int .i64 s.a) := fun W h => h.at HD1.out 0
    have D1 : ∀ W, Kp w.heap.size w1 W → W.cell? ⟨w.heap.size, 1, none⟩ = some (.int .i64 s.b) := fun W h => h.at HD1.out 1
    have D2 : ∀ W, Kp w.heap.size w1 W → W.cell? ⟨w.heap.size, 2, none⟩ = some (.int .i64 s.c) := fun W h => h.at HD1.out 2
    have D3 : ∀ W, Kp w.heap.size w1 W → W.cell? ⟨w.heap.size, 3, none⟩ = some (.int .i64 s.d) := fun W h => h.at HD1.out 3
    have D4 : ∀ W, Kp w.heap.size w1 W → W.cell? ⟨w.heap.size, 4, none⟩ = some (.int .i64 n) := fun W h => h.at HD1.out 4
    have D5 : ∀ W, Kp w.heap.size w1 W → W.cell? ⟨w.heap.size, 5, none⟩ = some (.string r) := fun W h => h.at HD1.out 5
    have hrefl : Kp w.heap.size w1 w1 := Kp.refl _ _
    have hreflD : Kp w.heap.size w1 w1.drew := (Kp.refl _ _).drew
    have e1 : IntKind.i64.wrap ((n : Int) + x.size) = (n : Int) + x.size := IntWalk.i64_in _ (by omega)
    have hm0 : (y.size : Int) - (y.size : Int).tmod 64 = ((y.size - y.size % 64 : Nat) : Int) := by rw [Int.tmod_eq_emod_of_nonneg (by omega)]; omega
    have hmle : y.size - y.size % 64 ≤ y.size := Nat.sub_le _ _
    have e2 : IntKind.i64.wrap ((y.size : Int) - (y.size : Int).tmod 64) = ((y.size - y.size % 64 : Nat) : Int) := by rw [hm0]; exact i64_nat (by omega)
    obtain ⟨m, hm⟩ : ∃ m, y.size - y.size % 64 = m := ⟨_, rfl⟩
    rw [hm] at e2 hmle
    have Hm := Lib.hid hm
    clear hm hm0
    go_cut [5] (fun x5 W => x5 = .int .i64 0 ∧ Below w.heap.size w1 W ∧ W.heap[w.heap.size + 1]? = some (.cells #[.int .i64 t.a, .int .i64 t.b, .int .i64 t.c, .int .i64 t.d, .int .i64 (n + x.size), .string (y.extract m y.size)] 41 (0, 0)))
    case first =>
      go_region_held3 (fun W => Kp w.heap.size w1 W) (first | with_reducible exact hrefl | with_reducible exact hreflD | with_reducible exact HB2 | ((iterate 6 refine Kp.set ?_ _ _); with_reducible exact HB2)) ((go_at_call 35; refine (HM.out _).mono ?_; rintro e w2 ⟨rfl, hB2⟩; have HB2 : Kp w.heap.size w1 w2 := hreflD.call hlt0 hB2; have HZ2 : Hid (w2.heap[w.heap.size + 1]? = some (.cells zdv 41 (0, 0))) := (hB2.block _ hlt1).trans HZ1.out; clear hB2; have g0 : w2.cell? ⟨w.heap.size + 1, 0, none⟩ = some (.int .i64 0) := cell_of_row _ _ 0 _ _ _ HZ2.out; have f0 : w2.frozen? ⟨w.heap.size + 1, 0, none⟩ = false := frozen_of_row _ _ 0 _ _ HZ2.out; have g1 : w2.cell? ⟨w.heap.size + 1, 1, none⟩ = some (.int .i64 0) := cell_of_row _ _ 1 _ _ _ HZ2.out; have f1 : w2.frozen? ⟨w.heap.size + 1, 1, none⟩ = false := frozen_of_row _ _ 1 _ _ HZ2.out; have g2 : w2.cell? ⟨w.heap.size + 1, 2, none⟩ = some (.int .i64 0) := cell_of_row _ _ 2 _ _ _ HZ2.out; have f2 : w2.frozen? ⟨w.heap.size + 1, 2, none⟩ = false := frozen_of_row _ _ 2 _ _ HZ2.out; have g3 : w2.cell? ⟨w.heap.size + 1, 3, none⟩ = some (.int .i64 0) := cell_of_row _ _ 3 _ _ _ HZ2.out; have f3 : w2.frozen? ⟨w.heap.size + 1, 3, none⟩ = false := frozen_of_row _ _ 3 _ _ HZ2.out; have g4 : w2.cell? ⟨w.heap.size + 1, 4, none⟩ = some (.int .i64 0) := cell_of_row _ _ 4 _ _ _ HZ2.out; have f4 : w2.frozen? ⟨w.heap.size + 1, 4, none⟩ = false := frozen_of_row _ _ 4 _ _ HZ2.out; have g5 : w2.cell? ⟨w.heap.size + 1, 5, none⟩ = some (.string ⟨#[]⟩) := cell_of_row _ _ 5 _ _ _ HZ2.out; have f5 : w2.frozen? ⟨w.heap.size + 1, 5, none⟩ = false := frozen_of_row _ _ 5 _ _ HZ2.out))
      all_goals go_wp2_with fail
      go_meet
      exact ⟨rfl, ((((((HB2.set 0 _).set 1 _).set 2 _).set 3 _).set 4 _).set 5 _).2, heap_setCell_same _ _ 5 _ 41 _ (heap_setCell_same _ _ 4 _ 41 _ (heap_setCell_same _ _ 3 _ 41 _ (heap_setCell_same _ _ 2 _ 41 _ (heap_setCell_same _ _ 1 _ 41 _ (heap_setCell_same _ _ 0 _ 41 _ HZ2.out)))))⟩
    case rest =>
      obtain ⟨rfl, hB3, hO⟩ := hcut
      have hqe : (r ++ x).extract (r.size + x.size - (r.size + x.size) % 64) (r.size + x.size) = y.extract m y.size := by
        rw [HY.out, ← HSZ.out, Hm.out]
      have hte : changed s (asc r.data.toList ++ asc x.data.toList) = t := by rw [← asc_append, HY.out]; exact Ht.out
      have HO := Lib.hid hO
      have HQE := Lib.hid hqe
      have HTE := Lib.hid hte
      have HB3 := Lib.hid hB3
      clear hB3 hO hqe hte D0 D1 D2 D3 D4 D5 hadd e1 e2
      go_wp2_with fail
      exact bodyPost_ret (v := .tuple #[.agg #[.int .i64 t.a, .int .i64 t.b, .int .i64 t.c, .int .i64 t.d, .int .i64 (n + x.size), .string (y.extract m y.size)], .int .i64 0]) (results_row2 rfl _ _ (w.heap.size + 1) 41 _ _ rfl HO.out Tryd.underlying41 rfl 6 (by kernel_rfl) rfl (.int .i64 0) rfl) rfl ⟨ret_eq (moreRes_short s n r x HL.out t HTE.out _ HQE.out).symm, HB1.out.trans HB3.out⟩
end Go.Proofs.YtfhddcjepgjfnaaDoor
