/- Walks: Hex. -/
import Derived.Test.YtfhddcjepgjfnaaDoorA5
import Derived.Test.YtfhddcjepgjfnaaDoorEq
import Derived.Test.YtfhddcjepgjfnaaDoorBuilder
import Derived.Test.YtfhddcjepgjfnaaDoorShelf
namespace Go.Proofs.YtfhddcjepgjfnaaDoor
open Go.RowKit Md

def hexOf (l : List Nat) : List UInt8 := (hex l).map UInt8.ofNat

theorem ob_get (l : List Nat) (k : Nat) (h : k < l.length) : (ob l)[k]? = some (.int .u8 (l.getD k 0 : Nat)) := by
  simp [ob, h]
theorem hexOf_succ (l : List Nat) (k : Nat) (h : k < l.length) : hexOf (l.take (k + 1)) = hexOf (l.take k) ++ [UInt8.ofNat (dig (l.getD k 0 / 16)), UInt8.ofNat (dig (l.getD k 0 % 16))] := by
  rw [List.take_succ_eq_append_getElem h]
  have : l.getD k 0 = l[k] := by simp [h]
  rw [this]
  simp only [hexOf, hex, List.flatMap_append, List.map_append, List.flatMap_cons, List.flatMap_nil, List.append_nil, List.map_cons, List.map_nil]
theorem hexOf_length (l : List Nat) : (hexOf l).length = 2 * l.length := by
  induction l with
  | nil => rfl
  | cons x r ih => simp [hexOf, hex] at *; omega
theorem dig_lt (n : Nat) (h : n < 16) : dig n < 256 := by unfold dig; split <;> omega
theorem digAt (j : Nat) (h : j < (⟨#[48, 49, 50, 51, 52, 53, 54, 55, 56, 57, 97, 98, 99, 100, 101, 102]⟩ : ByteArray).size) : ((⟨#[48, 49, 50, 51, 52, 53, 54, 55, 56, 57, 97, 98, 99, 100, 101, 102]⟩ : ByteArray)[j]'h).toNat = dig j := by
  have : ∀ j : Fin 16, ((⟨#[48, 49, 50, 51, 52, 53, 54, 55, 56, 57, 97, 98, 99, 100, 101, 102]⟩ : ByteArray)[j.val]'(j.isLt)).toNat = dig j.val := by decide
  exact this ⟨j, h⟩
theorem ofNat_dig (n : Nat) (h : n < 16) : (UInt8.ofNat (dig n)).toNat = dig n := by
  rw [UInt8.toNat_ofNat']; exact Nat.mod_eq_of_lt (dig_lt n h)

set_option maxRecDepth 100000 in
set_option maxHeartbeats 1000000 in
theorem hex_any (l : List Nat) (hl : l.length = 16) (hb : ∀ i, l.getD i 0 < 256) (w : World) :
    Calls Tryd.prog 17 #[.agg (ob l)] w fun e w' => e = .returned (.string ⟨(hexOf l).toArray⟩) ∧ Below w.heap.size w w' := by
  have HL := Lib.hid hl
  have HB := Lib.hid hb
  have HC : Hid (∀ o, (w.alloc (.cells (ob l) 28)).heap[w.heap.size]? = some (.cells (ob l) 28 (0, 0)) ∧ ((w.alloc (.cells (ob l) 28)).alloc o).heap[w.heap.size]? = some (.cells (ob l) 28 (0, 0))) := fun o => ⟨heap_alloc_at _ _ _ rfl, (heap_alloc_lt _ _ _ (by simp)).trans (heap_alloc_at _ _ _ rfl)⟩
  clear hl hb
  go_enter Tryd.func17, Tryd.ntmps17
  go_wp2_with ((with_reducible refine wpList_load_whole rfl 28 _ rfl w.heap.size ?_ 28 (ob l) _ (HC.out _).2 Tryd.underlying28 ?_ 16 ?_ ?_ ?_); (next => rfl); (next => rfl); (next => kernel_rfl); (next => simp [ob, HL.out]))
  have Hf := Lib.hid (Lib.fresh_isBuilder 73 5 (w.alloc (.cells (ob l) 28)))
  obtain ⟨W1, hW1⟩ : ∃ W1, W1 = (w.alloc (.cells (ob l) 28)).alloc (.cells #[.pointer none, .slice none 0 0] 73) := ⟨_, rfl⟩
  have hB1' : Hid (Below w.heap.size w W1) := hW1 ▸ ((Below.refl _ _).alloc (Nat.le_refl _) _).alloc (by simp) _
  have hI1 : Hid (IsBd (w.heap.size + 1) (w.heap.size + 1) [] W1) := by
    have := Hf.out
    rw [World.size_alloc] at this
    rw [hW1]
    exact this
  have hs1 : W1.heap.size = w.heap.size + 2 := by rw [hW1]; simp
  have Hs1 := Lib.hid hs1
  rw [← hW1]
  clear hW1 hs1 Hf HC
  go_loopw [5, 7] (fun _ x7 wr => ∃ k : Nat, k ≤ 16 ∧ x7 = .int .i64 k ∧ Below (w.heap.size + 1) W1 wr ∧ IsBd (w.heap.size + 1) (w.heap.size + 1) (Lib.byteCells (hexOf (l.take k))) wr) (fun _ i _ => 16 - (intOf i).toNat)
  case atStart => exact ⟨0, by omega, rfl, Below.refl _ _, hI1.out⟩
  case round =>
    obtain ⟨k, hk, rfl, hB, hI⟩ := hrel
    by_cases hlt : k < 16
    · obtain ⟨o, ho⟩ : ∃ o, l.getD k 0 = o := ⟨_, rfl⟩
      have hix := fun W => run_index_one (P := Tryd.prog) (n := 16) Tryd.underlying28 Tryd.isAgg5 Tryd.sizeOf5 (ob l) k (.int .u8 o) hlt (by rw [← ho]; exact ob_get l k (by rw [HL.out]; exact hlt)) W
      have ho256 : o < 256 := ho ▸ HB.out k
      have hst := hexOf_succ l k (by rw [HL.out]; exact hlt)
      rw [ho] at hst
      have hlen := hexOf_length (l.take k)
      have HI := Lib.hid hI
      have HBB := Lib.hid hB
      have Hst := Lib.hid hst
      have Hlen := Lib.hid hlen
      have Hsz : Hid (w.heap.size + 1 ≤ wr.heap.size) := by have := hB.size; have := Hs1.out; exact Lib.hid (by omega)
      clear hI hB hst hlen ho
      go_wp2_with fail
      refine (writeByte_any _ _ _ _ _ HI.out (by rw [Lib.byteCells_length, Hlen.out, List.length_take]; omega) Hsz.out).mono ?_
      rintro e w1 ⟨rfl, hI1, hB1⟩
      rw [digAt] at hI1
      have HI1 : Hid (IsBd _ _ _ w1) := Lib.hid (.inr hI1)
      have HB1 := Lib.hid hB1
      clear hI1 hB1
      go_wp2_with fail
      refine (writeByte_any _ _ _ _ _ HI1.out (by rw [List.length_append, Lib.byteCells_length, Hlen.out, List.length_take]; simp; omega) (Nat.le_trans Hsz.out HB1.out.size)).mono ?_
      rintro e w2 ⟨rfl, hI2, hB2⟩
      rw [digAt] at hI2
      have HI2 : Hid (IsBd _ _ _ w2) := Lib.hid (.inr hI2)
      have HB2 := Lib.hid hB2
      clear hI2 hB2
      go_wp2_with fail
      go_roundw
      case rel =>
        refine ⟨k + 1, by omega, by go_num, (HBB.out.trans (HB1.out)).trans (HB2.out), ?_⟩
        rw [Hst.out]
        have e1 : Lib.byteCells (hexOf (l.take k) ++ [UInt8.ofNat (dig (o / 16)), UInt8.ofNat (dig (o % 16))]) = Lib.byteCells (hexOf (l.take k)) ++ [.int .u8 (dig (o / 16) : Nat)] ++ [.int .u8 (dig (o % 16) : Nat)] := by
          simp only [Lib.byteCells, List.map_append, List.map_cons, List.map_nil, ofNat_dig _ (show o / 16 < 16 by omega), ofNat_dig _ (show o % 16 < 16 by omega), List.append_assoc, List.cons_append, List.nil_append]
        rw [e1]
        exact HI2.out
      case measure => simp [intOf]; omega
    · obtain rfl : k = 16 := by omega
      have hI' : IsBd (w.heap.size + 1) (w.heap.size + 1) (Lib.byteCells (hexOf l)) wr := by
        rw [List.take_of_length_le (by rw [HL.out]; omega)] at hI; exact hI
      have HI := Lib.hid hI'
      have HBB := Lib.hid hB
      have Hsz : Hid (w.heap.size + 1 ≤ wr.heap.size) := by have := hB.size; have := Hs1.out; exact Lib.hid (by omega)
      clear hI hI' hB
      go_wp2_with fail
      refine (Tryd.Builder_String_any _ _ _ _ HI.out Hsz.out).mono ?_
      rintro e w1 ⟨rfl, hB1⟩
      go_wp2_with fail
      go_ret
      exact ⟨rfl, hB1'.out.trans ((HBB.out.mono (by omega)).trans (hB1.mono (by omega)))⟩
end Go.Proofs.YtfhddcjepgjfnaaDoor
