/- Walks: filled, done, read, write. -/
import Derived.Test.YtfhddcjepgjfnaaDoorA4
namespace Go.Proofs.YtfhddcjepgjfnaaDoor
open Go.RowKit Md

/-- Octets as values. -/
def ob (l : List Nat) : Array Value := (l.map fun n : Nat => Value.int .u8 (n : Int)).toArray
def FB (l : List Nat) (k : Nat) : Array Value := ((List.range 16).map fun j => Value.int .u8 (if j < k then l.getD j 0 else 0 : Nat)).toArray
theorem FB_size (l : List Nat) (k : Nat) : (FB l k).size = 16 := by simp [FB]
theorem FB_end (l : List Nat) (h : l.length = 16) : FB l 16 = ob l := by
  apply Array.ext_getElem?
  intro j
  simp only [FB, ob, List.getElem?_toArray, List.getElem?_map]
  by_cases hj : j < 16
  · have : j < l.length := by omega
    simp [hj, this]
  · have : l[j]? = none := List.getElem?_eq_none (by omega)
    simp [hj, this]
theorem FB_zero (l : List Nat) : FB l 0 = #[.int .u8 0, .int .u8 0, .int .u8 0, .int .u8 0, .int .u8 0, .int .u8 0, .int .u8 0, .int .u8 0, .int .u8 0, .int .u8 0, .int .u8 0, .int .u8 0, .int .u8 0, .int .u8 0, .int .u8 0, .int .u8 0] := by
  simp [FB]; rfl
theorem FB_get (l : List Nat) (k : Nat) (h : k < 16) : (FB l k)[k]? = some (.int .u8 0) := by
  simp [FB, h]
theorem FB_set (l : List Nat) (k : Nat) : (FB l k).setIfInBounds k (.int .u8 (l.getD k 0 : Nat)) = FB l (k + 1) := by
  apply Array.ext_getElem?
  intro j
  simp only [FB, Array.getElem?_setIfInBounds, List.getElem?_toArray, List.getElem?_map, List.size_toArray, List.length_map, List.length_range]
  by_cases hj : k = j
  · subst hj
    by_cases h16 : k < 16
    · simp [h16]
    · simp [h16]
  · by_cases h16 : j < 16
    · have e : (j < k + 1) = (j < k) := by simp; omega
      simp [hj, h16, e]
    · simp [hj, h16]
theorem ob_one (l : List Nat) : (ob l).toList.all (·.oneCell') = true := by
  simp [ob, Value.oneCell']
theorem told_length (s : St) : (told s).length = 16 := by simp [told]
theorem told_get (s : St) (i : Nat) (h : i < 16) : (told s).getD i 0 = wordsOf s (i / 4) / 256 ^ (i % 4) % 256 := by
  simp [told, h]

set_option maxRecDepth 100000 in
set_option maxHeartbeats 1000000 in
theorem filled_any (s : St) (w : World) :
    Calls Tryd.prog 53 #[.func (.func 54) #[.agg #[.int .u32 s.a, .int .u32 s.b, .int .u32 s.c, .int .u32 s.d]] #[]] w fun e w' => e = .returned (.agg (ob (told s))) ∧ Below w.heap.size w w' := by
  obtain ⟨a, b, c, d⟩ := s
  obtain ⟨l, hl⟩ : ∃ l, told ⟨a, b, c, d⟩ = l := ⟨_, rfl⟩
  have hlen : l.length = 16 := hl ▸ told_length _
  have Hl := Lib.hid hl
  have HL := Lib.hid hlen
  clear hl hlen
  go_enter Tryd.func53, Tryd.ntmps53
  go_wp2
  go_loopw [3, 4] (fun _ x4 wr => ∃ k : Nat, k ≤ 16 ∧ x4 = .int .i64 k ∧ Below w.heap.size w wr ∧ wr.heap[w.heap.size]? = some (.cells (FB l k) 28 (0, 0))) (fun _ i _ => 16 - (intOf i).toNat)
  case atStart => exact ⟨0, by omega, rfl, (Below.refl _ _).alloc (Nat.le_refl _) _, by rw [FB_zero]; exact heap_alloc_at _ _ _ rfl⟩
  case round =>
    obtain ⟨k, hk, rfl, hB, hh⟩ := hrel
    by_cases hlt : k < 16
    · have Hh := Lib.hid hh
      have hsz : w.heap.size < wr.heap.size := (Array.getElem?_eq_some_iff.1 hh).1
      clear hh
      go_wp2_with fail
      refine (octet_any a b c d k hlt wr).mono ?_
      rintro e w1 ⟨rfl, hB1⟩
      have hv := told_get ⟨a, b, c, d⟩ k hlt
      rw [Hl.out] at hv
      rw [← hv]
      have hh1 := (hB1.block _ hsz).trans Hh.out
      have hc : w1.cell? ⟨w.heap.size, k, none⟩ = some (.int .u8 0) := (cell_of_row _ _ k _ _ _ hh1).trans (FB_get l k hlt)
      have hf := frozen_of_row _ w.heap.size k _ _ hh1
      obtain ⟨q, hq⟩ : ∃ q, l.getD k 0 = q := ⟨_, rfl⟩
      rw [hq] at hv ⊢
      have Hq := Lib.hid hq
      clear hq
      have Hh1 := Lib.hid hh1
      have Hv := Lib.hid hv
      clear hh1 hv
      go_wp2
      go_roundw
      case rel => exact ⟨k + 1, by omega, by go_num, (hB.trans (hB1.mono (by omega))).setCell (Nat.le_refl _) _, by rw [heap_setCell_same _ _ _ _ _ _ Hh1.out, ← FB_set, ← Hq.out]⟩
      case measure => simp [intOf]; omega
    · obtain rfl : k = 16 := by omega
      rw [FB_end l HL.out] at hh
      have Hh := Lib.hid hh
      clear hh hlt hk
      go_wp2_with (first | (refine wpList_load_whole rfl 28 _ rfl w.heap.size rfl 28 (ob l) _ Hh.out Tryd.underlying28 rfl 16 ?c1 ?c2 ?_) | (refine wpList_store_row rfl 28 _ _ rfl w.heap.size (ob l) rfl rfl 28 (ob l) Hh.out 16 ?c3 ?c4 ?c5 (ob_one l) ?_))
      case c1 => kernel_rfl
      case c2 => simp [ob, HL.out]
      case c3 => kernel_rfl
      case c4 => simp [ob, HL.out]
      case c5 => simp [ob, HL.out]
      refine bodyPost_ret (v := .agg (ob l)) (results_row rfl _ _ w.heap.size 28 (ob l) _ rfl (setRow_heap _ _ _ _ _ _ Hh.out) Tryd.underlying28 rfl 16 (by kernel_rfl) (by simp [ob, HL.out])) rfl ⟨by rw [Hl.out], below_setRow hB (Nat.le_refl _) _⟩
end Go.Proofs.YtfhddcjepgjfnaaDoor
