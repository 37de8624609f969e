/- The walk of the reference's told. -/
import Derived.Test.YtfhddcjepgjfnaaDoorA16
import Derived.Test.YtfhddcjepgjfnaaDoorA12
namespace Go.Proofs.YtfhddcjepgjfnaaDoor
open Go.RowKit Md

theorem wordsI_at (t : St) (j : Nat) (h : j < 4) : (sI t)[j]? = some (.int .i64 (wordsOf t j : Nat)) := by
  match j, h with
  | 0, _ => rfl
  | 1, _ => rfl
  | 2, _ => rfl
  | 3, _ => rfl
theorem wordsOf_lt (t : St) (h : t.ok) (j : Nat) : wordsOf t j < 4294967296 := by
  unfold wordsOf
  split
  · exact h.1
  split
  · exact h.2.1
  split
  · exact h.2.2.1
  · exact h.2.2.2
theorem ownsRow_slice {w : World} {base : Nat} {e : TypeId} {v : Value} {n : Nat} {xs : List Value} (hn : 0 < n) (h : w.ownsRow base e 1 v n xs) :
    ∃ g cap, v = .slice (some ⟨g, 0, none⟩) n cap ∧ base ≤ g ∧ g < w.heap.size ∧ n ≤ cap ∧ ∀ j u, xs[j]? = some u → w.cell? ⟨g, j, none⟩ = some u := by
  have hc := fun g hg => h.cells (g := g) hg
  rcases h.2 with ⟨rfl, h0⟩ | ⟨g, cap, cur, rfl, hb, hg, hle, _⟩
  · omega
  · refine ⟨g, cap, rfl, hb, (Array.getElem?_eq_some_iff.1 hg).1, hle, fun j u hu => ?_⟩
    have := hc g rfl j u hu
    have hadd : (⟨g, 0, none⟩ : Addr).add j = ⟨g, j, none⟩ := by unfold Addr.add; split <;> simp_all
    rwa [hadd] at this

set_option maxRecDepth 100000 in
set_option maxHeartbeats 1000000 in
theorem toldI_any (t : St) (hok : t.ok) (w : World) :
    Calls Tryd.prog 34 #[.agg (sI t)] w fun e w' => e = .returned (.agg (ob (told t))) ∧ Below w.heap.size w w' := by
  obtain ⟨l, hl⟩ : ∃ l, told t = l := ⟨_, rfl⟩
  have hlen : l.length = 16 := hl ▸ told_length _
  have Hl := Lib.hid hl
  have HL := Lib.hid hlen
  clear hl hlen
  go_enter Tryd.func34, Tryd.ntmps34
  go_wp2
  go_loopw [4] (fun x4 wr => ∃ k : Nat, k ≤ 16 ∧ x4 = .int .i64 k ∧ Below w.heap.size w wr ∧ wr.heap[w.heap.size]? = some (.cells (sI t) 39 (0, 0)) ∧ wr.heap[w.heap.size + 1]? = some (.cells z16 28 (0, 0)) ∧ wr.heap[w.heap.size + 2]? = some (.cells (FB l k) 28 (0, 0))) (fun i _ => 16 - (intOf i).toNat)
  case atStart => exact ⟨0, by omega, rfl, (((Below.refl _ _).alloc (Nat.le_refl _) _).alloc (by simp) _).alloc (by simp only [World.size_alloc]; omega) _, by rw [heap_alloc_lt _ _ _ (by simp only [World.size_alloc]; omega), heap_alloc_lt _ _ _ (by simp)]; exact heap_alloc_at _ _ _ rfl, by rw [heap_alloc_lt _ _ _ (by simp only [World.size_alloc]; omega)]; exact heap_alloc_at _ _ _ (by simp), by rw [FB_zero]; exact heap_alloc_at _ _ _ (by simp)⟩
  case round =>
    obtain ⟨k, hk, rfl, hB, hD, hE, hh⟩ := hrel
    have HD := Lib.hid hD
    have HE := Lib.hid hE
    have Hh := Lib.hid hh
    have hsz : w.heap.size + 1 + 1 < wr.heap.size := (Array.getElem?_eq_some_iff.1 hh).1
    clear hD hE hh
    by_cases hlt : k < 16
    · have d0 : wr.cell? ⟨w.heap.size, k / 4, none⟩ = some (.int .i64 (wordsOf t (k / 4) : Nat)) := (cell_of_row _ _ _ _ _ _ HD.out).trans (wordsI_at t _ (by omega))
      have hv := told_get t k hlt
      rw [Hl.out] at hv
      have Hv := Lib.hid hv
      have hwl := wordsOf_lt t hok (k / 4)
      generalize wordsOf t (k / 4) = x at *
      clear hv
      go_wp2_with fail
      refine (octets_any x 4 (by omega) (by omega) wr).mono ?_
      rintro e w1 ⟨v, rfl, hB1, hown⟩
      obtain ⟨g, cap, rfl, hg1, hg2, hcap, hcells⟩ := ownsRow_slice (by omega) hown
      have hc := hcells (k % 4) (.int .u8 (l.getD k 0 : Nat)) (by rw [Hv.out, ov, List.getElem?_map, List.getElem?_range (by omega)]; rfl)
      have Hh1 := Lib.hid ((hB1.block _ hsz).trans Hh.out)
      have HD1 := Lib.hid ((hB1.block _ (by omega)).trans HD.out)
      have HE1 := Lib.hid ((hB1.block _ (by omega)).trans HE.out)
      have hc1 : w1.cell? ⟨w.heap.size + 1 + 1, k, none⟩ = some (.int .u8 0) := (cell_of_row _ (w.heap.size + 2) k _ _ _ Hh1.out).trans (FB_get l k hlt)
      have hf := frozen_of_row _ (w.heap.size + 2) k _ _ Hh1.out
      have Hs := Lib.hid (FB_set l k)
      have hB1' := hB.trans (hB1.mono (by omega))
      obtain ⟨q, hq⟩ : ∃ q, l.getD k 0 = q := ⟨_, rfl⟩
      rw [hq] at hc
      have Hq := Lib.hid hq
      clear hq hcells hown d0
      go_wp2_with fail
      go_roundw
      case rel => exact ⟨k + 1, by omega, by go_num, hB1'.setCell (by show _ ≤ w.heap.size + 1 + 1; omega) _, (Below.heap_setCell _ _ _ _ (by show w.heap.size ≠ w.heap.size + 1 + 1; omega)).trans HD1.out, (Below.heap_setCell _ _ _ _ (by show w.heap.size + 1 ≠ w.heap.size + 1 + 1; omega)).trans HE1.out, by rw [← Hq.out]; exact (heap_setCell_same _ (w.heap.size + 2) k _ 28 _ Hh1.out).trans (by rw [Hs.out])⟩
      case measure => simp [intOf]; omega
    · obtain rfl : k = 16 := by omega
      have hfull : wr.heap[w.heap.size + 1 + 1]? = some (.cells (ob l) 28 (0, 0)) := by rw [← FB_end l HL.out]; exact Hh.out
      have Hf := Lib.hid hfull
      clear hfull hlt hk
      go_wp2_with (first | ((with_reducible refine wpList_load_whole rfl 28 _ rfl (w.heap.size + 1 + 1) ?_ 28 (ob l) _ Hf.out Tryd.underlying28 ?_ 16 ?_ ?_ ?_); (next => rfl); (next => rfl); (next => kernel_rfl); (next => simp [ob, HL.out])) | ((with_reducible refine wpList_store_row rfl 28 _ _ rfl (w.heap.size + 1) (ob l) ?_ ?_ 28 _ HE.out 16 ?_ ?_ ?_ ?_ ?_); (next => rfl); (next => rfl); (next => kernel_rfl); (next => rfl); (next => simp [ob, HL.out]); (next => exact ob_one _)))
      exact bodyPost_ret (v := .agg (ob l)) (results_row rfl _ _ (w.heap.size + 1) 28 (ob l) _ rfl (setRow_heap _ _ _ _ _ _ HE.out) Tryd.underlying28 rfl 16 (by kernel_rfl) (by simp [ob, HL.out])) rfl ⟨by rw [Hl.out], below_setRow hB (by omega) _⟩
end Go.Proofs.YtfhddcjepgjfnaaDoor
