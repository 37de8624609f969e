/- Walks: Unhex. -/
import Derived.Test.YtfhddcjepgjfnaaDoorA11
import Derived.Test.YtfhddcjepgjfnaaDoorA9
namespace Go.Proofs.YtfhddcjepgjfnaaDoor
open Go.RowKit Md

/-- The number of a digit; 16 if it is none. -/
def nib (c : Nat) : Nat := if 48 ≤ c ∧ c ≤ 57 then c - 48 else if 97 ≤ c ∧ c ≤ 102 then c - 87 else 16
/-- All of the first k octets are digits. -/
def digs (l : List Nat) (k : Nat) : Prop := ∀ i, i < k → nib (l.getD i 0) < 16
def nb (l : List Nat) (i : Nat) : Nat := nib (l.getD i 0)
def unhexL (l : List Nat) : List Nat := (List.range 16).map fun j => 16 * nb l (2 * j) + nb l (2 * j + 1)
def UB (l : List Nat) (k : Nat) : Array Value := ((List.range 16).map fun j => Value.int .u8 (if 2 * j + 1 < k then 16 * nb l (2 * j) + nb l (2 * j + 1) else if 2 * j < k then nb l (2 * j) else 0 : Nat)).toArray
open Classical in
/-- What Unhex returns. -/
noncomputable def unhexRes (l : List Nat) : Value := if l.length = 32 ∧ digs l 32 then .tuple #[.agg (ob (unhexL l)), .int .i64 0] else .tuple #[.agg z16, .int .i64 5]

theorem indexByte_nib (c : UInt8) : Lib.indexByte [48, 49, 50, 51, 52, 53, 54, 55, 56, 57, 97, 98, 99, 100, 101, 102] c = if nib c.toNat < 16 then (nib c.toNat : Int) else -1 := by
  have : ∀ n : Fin 256, Lib.indexByte [48, 49, 50, 51, 52, 53, 54, 55, 56, 57, 97, 98, 99, 100, 101, 102] (UInt8.ofNat n.val) = if nib n.val < 16 then (nib n.val : Int) else -1 := by decide +kernel
  have h := this ⟨c.toNat, c.toNat_lt⟩
  simpa using h
theorem UB_size (l : List Nat) (k : Nat) : (UB l k).size = 16 := by simp [UB]
theorem UB_zero (l : List Nat) : UB l 0 = z16 := by simp [UB]; rfl
theorem UB_end (l : List Nat) : UB l 32 = ob (unhexL l) := by
  apply Array.ext_getElem?
  intro j
  simp only [UB, ob, unhexL, List.getElem?_toArray, List.getElem?_map]
  by_cases hj : j < 16
  · have : 2 * j + 1 < 32 := by omega
    simp [hj, this]
  · simp [hj]
/-- What stands at the place of the next digit. -/
def old (l : List Nat) (k : Nat) : Nat := if k % 2 = 0 then 0 else nb l (k - 1)
theorem UB_get (l : List Nat) (k : Nat) (h : k < 32) : (UB l k)[k / 2]? = some (.int .u8 (old l k : Nat)) := by
  have h2 : k / 2 < 16 := by omega
  have e1 : ¬ 2 * (k / 2) + 1 < k := by omega
  simp only [UB, List.getElem?_toArray, List.getElem?_map, List.getElem?_range h2, Option.map_some, if_neg e1]
  by_cases he : k % 2 = 0
  · have e2 : ¬ 2 * (k / 2) < k := by omega
    simp [old, he, e2]
  · have e2 : 2 * (k / 2) < k := by omega
    have e3 : 2 * (k / 2) = k - 1 := by omega
    simp [old, he, e3, show k - 1 < k by omega]
theorem UB_set (l : List Nat) (k : Nat) (h : k < 32) : (UB l k).setIfInBounds (k / 2) (.int .u8 (16 * old l k + nb l k : Nat)) = UB l (k + 1) := by
  apply Array.ext_getElem?
  intro j
  simp only [UB, Array.getElem?_setIfInBounds, List.getElem?_toArray, List.getElem?_map, List.size_toArray, List.length_map, List.length_range]
  by_cases hj : k / 2 = j
  · subst hj
    have h2 : k / 2 < 16 := by omega
    simp only [if_true, h2, List.getElem?_range h2, Option.map_some]
    by_cases he : k % 2 = 0
    · have e1 : ¬ 2 * (k / 2) + 1 < k + 1 := by omega
      have e2 : 2 * (k / 2) < k + 1 := by omega
      have e3 : 2 * (k / 2) = k := by omega
      simp [old, he, e3]
    · have e1 : 2 * (k / 2) + 1 < k + 1 := by omega
      have e3 : 2 * (k / 2) = k - 1 := by omega
      simp [old, he, e3, show k - 1 + 1 = k by omega]
  · by_cases h16 : j < 16
    · have a1 : (2 * j + 1 < k + 1) ↔ (2 * j + 1 < k) := by omega
      have a2 : (2 * j < k + 1) ↔ (2 * j < k) := by omega
      have p1 := propext a1
      have p2 := propext a2
      rw [if_neg hj, List.getElem?_range h16]
      simp only [Option.map_some, p1, p2]
    · simp [hj, h16]
theorem nib_or (x d : Nat) (hx : x < 16) (hd : d < 16) : bits .or .u8 ((x : Int) * 16 % 256) (d : Int) = ((16 * x + d : Nat) : Int) := by
  have : ∀ x d : Fin 16, bits .or .u8 (((x.val : Nat) : Int) * 16 % 256) ((d.val : Nat) : Int) = ((16 * x.val + d.val : Nat) : Int) := by decide +kernel
  exact this ⟨x, hx⟩ ⟨d, hd⟩
theorem u8_back (c : UInt8) : ((c.toNat : Int)).toNat.toUInt8 = c := by simp
theorem ob_size16 (l : List Nat) (h : l.length = 16) : (ob l).size = 16 := by simp [ob, h]
theorem unhexL_length (l : List Nat) : (unhexL l).length = 16 := by simp [unhexL]

set_option maxRecDepth 100000 in
set_option maxHeartbeats 1000000 in
theorem unhex_any (t : ByteArray) (_ht : t.size ≤ 140737488355328) (w : World) :
    Calls Tryd.prog 15 #[.string t] w fun e w' => e = .returned (unhexRes (asc t.data.toList)) ∧ Below w.heap.size w w' := by
  obtain ⟨l, hl⟩ : ∃ l, asc t.data.toList = l := ⟨_, rfl⟩
  have hlen : l.length = t.size := hl ▸ asc_length t
  have hat : Hid (∀ k (h : k < t.size), t[k].toNat = l.getD k 0) := Lib.hid (fun k h => by rw [← hl]; exact (asc_at t k h).symm)
  rw [hl]
  clear hl
  have Hlen := Lib.hid hlen
  clear hlen
  have HR := Lib.hid (heap_alloc_at (w.alloc (.cells z16 28)) (.cells z16 28) (w.heap.size + 1) (by simp))
  have HE := Lib.hid ((heap_alloc_lt (w.alloc (.cells z16 28)) (.cells z16 28) w.heap.size (by simp)).trans (heap_alloc_at w (.cells z16 28) w.heap.size rfl))
  have HBw : Hid (Below w.heap.size w ((w.alloc (.cells z16 28)).alloc (.cells z16 28))) := Lib.hid (((Below.refl _ _).alloc (Nat.le_refl _) _).alloc (by simp) _)
  by_cases h32 : t.size = 32
  · have h32' : ((t.size : Int) != 32) = false := by simp [h32]
    have H32 := Lib.hid h32
    go_enter Tryd.func15, Tryd.ntmps15
    go_wp2_with fail
    go_loopw [5, 6, 13] (fun _ _ x13 wr => ∃ k : Nat, k ≤ 32 ∧ x13 = .int .i64 k ∧ Below w.heap.size w wr ∧ wr.heap[w.heap.size]? = some (.cells z16 28 (0, 0)) ∧ wr.heap[w.heap.size + 1]? = some (.cells (UB l k) 28 (0, 0)) ∧ digs l k) (fun _ _ i _ => 32 - (intOf i).toNat)
    case atStart => exact ⟨0, by omega, rfl, HBw.out, HE.out, by rw [UB_zero]; exact HR.out, fun i hi => by omega⟩
    case round =>
      obtain ⟨k, hk, rfl, hB, hE, hU, hd⟩ := hrel
      have HB := Lib.hid hB
      have HE' := Lib.hid hE
      have HU := Lib.hid hU
      have HD := Lib.hid hd
      clear hB hE hU hd HE HR HBw
      by_cases hlt : k < 32
      · have hks : k < t.size := by omega
        have hc : wr.cell? ⟨w.heap.size + 1, k / 2, none⟩ = some (.int .u8 (old l k : Nat)) := (cell_of_row _ _ _ _ _ _ HU.out).trans (UB_get l k hlt)
        have hf : wr.frozen? ⟨w.heap.size + 1, k / 2, none⟩ = false := frozen_of_row _ _ _ _ _ HU.out
        have hib := indexByte_nib t[k]
        rw [hat.out k hks] at hib
        have hold : old l k < 16 := by
          unfold old; split
          · omega
          · exact HD.out _ (by omega)
        by_cases hn : nib (l.getD k 0) < 16
        · rw [if_pos hn] at hib
          obtain ⟨d, hdd⟩ : ∃ d, nib (l.getD k 0) = d := ⟨_, rfl⟩
          rw [hdd] at hib hn
          have hor := nib_or (old l k) d hold hn
          obtain ⟨x, hxx⟩ : ∃ x, old l k = x := ⟨_, rfl⟩
          rw [hxx] at hc hor
          have Hib := Lib.hid hib
          have Hor := Lib.hid hor
          have Hdd := Lib.hid hdd
          have Hxx := Lib.hid hxx
          clear hib hor hdd hxx hold
          go_wp2_with fail
          refine (Tryd.strings_IndexByte _ _ _).mono ?_
          rintro e w1 ⟨rfl, rfl⟩
          rw [show (⟨#[48, 49, 50, 51, 52, 53, 54, 55, 56, 57, 97, 98, 99, 100, 101, 102]⟩ : ByteArray).data.toList = [48, 49, 50, 51, 52, 53, 54, 55, 56, 57, 97, 98, 99, 100, 101, 102] from rfl, u8_back, Hib.out]
          go_wp2_with fail
          go_roundw
          case rel =>
            refine ⟨k + 1, by omega, by go_num, HB.out.setCell (by show _ ≤ w.heap.size + 1; omega) _, (Below.heap_setCell _ _ _ _ (by show w.heap.size ≠ w.heap.size + 1; omega)).trans HE'.out, ?_, ?_⟩
            · have := heap_setCell_same _ (w.heap.size + 1) (k / 2) _ 28 (.int .u8 (16 * old l k + nb l k : Nat)) HU.out
              rw [UB_set l k hlt] at this
              rw [← this, Hxx.out, nb, Hdd.out, Hor.out]
            · intro i hi
              by_cases hik : i = k
              · subst hik; rw [Hdd.out]; exact hn
              · exact HD.out i (by omega)
          case measure => simp [intOf]; omega
        · rw [if_neg hn] at hib
          have Hib := Lib.hid hib
          have HN := Lib.hid hn
          clear hib hold hn
          go_wp2_with fail
          refine (Tryd.strings_IndexByte _ _ _).mono ?_
          rintro e w1 ⟨rfl, rfl⟩
          rw [show (⟨#[48, 49, 50, 51, 52, 53, 54, 55, 56, 57, 97, 98, 99, 100, 101, 102]⟩ : ByteArray).data.toList = [48, 49, 50, 51, 52, 53, 54, 55, 56, 57, 97, 98, 99, 100, 101, 102] from rfl, u8_back, Hib.out]
          go_wp2_with ((with_reducible refine wpList_store_row rfl 28 _ _ rfl (w.heap.size) (z16) ?_ ?_ 28 _ HE'.out 16 ?_ ?_ ?_ ?_ ?_); (next => rfl); (next => rfl); (next => kernel_rfl); (next => rfl); (next => rfl); (next => rfl))
          exact bodyPost_ret (v := .tuple #[.agg z16, .int .i64 5]) (results_row2 rfl _ _ w.heap.size 28 z16 _ rfl (setRow_heap _ _ _ _ _ _ HE'.out) Tryd.underlying28 rfl 16 (by kernel_rfl) rfl (.int .i64 5) rfl) rfl ⟨by rw [unhexRes, if_neg (fun h => HN.out (h.2 k hlt))], below_setRow HB.out (Nat.le_refl _) _⟩
      · obtain rfl : k = 32 := by omega
        rw [UB_end] at HU
        clear hlt hk
        go_wp2_with (first | ((with_reducible refine wpList_load_whole rfl 28 _ rfl (w.heap.size + 1) ?_ 28 (ob (unhexL l)) _ HU.out Tryd.underlying28 ?_ 16 ?_ ?_ ?_); (next => rfl); (next => rfl); (next => kernel_rfl); (next => exact ob_size16 _ (unhexL_length l))) | ((with_reducible refine wpList_store_row rfl 28 _ _ rfl (w.heap.size) (ob (unhexL l)) ?_ ?_ 28 _ HE'.out 16 ?_ ?_ ?_ ?_ ?_); (next => rfl); (next => rfl); (next => kernel_rfl); (next => rfl); (next => exact ob_size16 _ (unhexL_length l)); (next => exact ob_one _)))
        exact bodyPost_ret (v := .tuple #[.agg (ob (unhexL l)), .int .i64 0]) (results_row2 rfl _ _ w.heap.size 28 _ _ rfl (setRow_heap _ _ _ _ _ _ HE'.out) Tryd.underlying28 rfl 16 (by kernel_rfl) (ob_size16 _ (unhexL_length l)) (.int .i64 0) rfl) rfl ⟨by rw [unhexRes, if_pos ⟨by rw [Hlen.out, H32.out], HD.out⟩], below_setRow HB.out (Nat.le_refl _) _⟩
  · have h32' : ((t.size : Int) != 32) = true := by simp; omega
    have H32 := Lib.hid h32
    clear h32
    go_enter Tryd.func15, Tryd.ntmps15
    go_wp2_with ((with_reducible refine wpList_store_row rfl 28 _ _ rfl (w.heap.size) (z16) ?_ ?_ 28 _ HE.out 16 ?_ ?_ ?_ ?_ ?_); (next => rfl); (next => rfl); (next => kernel_rfl); (next => rfl); (next => rfl); (next => rfl))
    exact bodyPost_ret (v := .tuple #[.agg z16, .int .i64 5]) (results_row2 rfl _ _ w.heap.size 28 z16 _ rfl (setRow_heap _ _ _ _ _ _ HE.out) Tryd.underlying28 rfl 16 (by kernel_rfl) rfl (.int .i64 5) rfl) rfl ⟨by rw [unhexRes, if_neg (by rw [Hlen.out]; exact fun h => H32.out h.1)], below_setRow HBw.out (Nat.le_refl _) _⟩
end Go.Proofs.YtfhddcjepgjfnaaDoor
