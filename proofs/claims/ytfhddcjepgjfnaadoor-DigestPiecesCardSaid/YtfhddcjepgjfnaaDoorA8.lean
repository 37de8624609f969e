/- Walks: done. -/
import Derived.Test.YtfhddcjepgjfnaaDoorA7
import Derived.Test.YtfhddcjepgjfnaaDoorShelf
import Derived.Deep.RegionHeld3
import Derived.Deep.DeepCutAuto
namespace Go.Proofs.YtfhddcjepgjfnaaDoor
open Go.RowKit Md

/-- The eight octets of a length, k of them written. -/
def FL (l : List Nat) (k : Nat) : Array Value := ((List.range 8).map fun j => Value.int .u8 (if j < k then l.getD j 0 else 0 : Nat)).toArray
theorem FL_zero (l : List Nat) : FL l 0 = #[.int .u8 0, .int .u8 0, .int .u8 0, .int .u8 0, .int .u8 0, .int .u8 0, .int .u8 0, .int .u8 0] := by
  simp [FL]; rfl
theorem FL_get (l : List Nat) (k : Nat) (h : k < 8) : (FL l k)[k]? = some (.int .u8 0) := by
  simp [FL, h]
theorem FL_set (l : List Nat) (k : Nat) : (FL l k).setIfInBounds k (.int .u8 (l.getD k 0 : Nat)) = FL l (k + 1) := by
  apply Array.ext_getElem?
  intro j
  simp only [FL, Array.getElem?_setIfInBounds, List.getElem?_toArray, List.getElem?_map, List.size_toArray, List.length_map, List.length_range]
  by_cases hj : k = j
  · subst hj
    by_cases h16 : k < 8
    · simp [h16]
    · simp [h16]
  · by_cases h16 : j < 8
    · have e : (j < k + 1) = (j < k) := by simp; omega
      simp [hj, h16, e]
    · simp [hj, h16]
theorem oct8_get (n i : Nat) (h : i < 8) : (oct8 n).getD i 0 = n / 256 ^ i % 256 := by
  simp [oct8, h]
/-- So many octets 0. -/
def zs (z : Nat) : ByteArray := ⟨(List.replicate z 0).toArray⟩
theorem zs_size (z : Nat) : (zs z).size = z := by simp [zs, ByteArray.size]
theorem repeatL_zero (z : Nat) : Lib.repeatL [(0 : UInt8)] z = List.replicate z 0 := by
  induction z with
  | zero => rfl
  | succ z ih => rw [Lib.repeatL, ih, List.replicate_succ]; rfl
theorem repeat0_any (z : Nat) (hz : z ≤ 100000) (w : World) :
    Calls Tryd.prog 27 #[.string ⟨#[0]⟩, .int .i64 z] w fun e w' => e = .returned (.string (zs z)) ∧ Below w.heap.size w w' := by
  refine (Tryd.strings_Repeat ⟨#[0]⟩ z w (by omega) (by show 1 * z ≤ _; omega)).mono ?_
  rintro e w' ⟨rfl, hB⟩
  refine ⟨?_, hB⟩
  have : Lib.repeatL (⟨#[0]⟩ : ByteArray).data.toList z = List.replicate z 0 := repeatL_zero z
  rw [this]; rfl
/-- Octets as a text. -/
def txt (l : List UInt8) : ByteArray := ⟨l.toArray⟩
theorem conv8 (q0 q1 q2 q3 q4 q5 q6 q7 : UInt8) (b : Nat) (w : World) (h0 : w.cell? ⟨b, 0, none⟩ = some (.int .u8 (q0.toNat : Nat))) (h1 : w.cell? ⟨b, 1, none⟩ = some (.int .u8 (q1.toNat : Nat))) (h2 : w.cell? ⟨b, 2, none⟩ = some (.int .u8 (q2.toNat : Nat))) (h3 : w.cell? ⟨b, 3, none⟩ = some (.int .u8 (q3.toNat : Nat))) (h4 : w.cell? ⟨b, 4, none⟩ = some (.int .u8 (q4.toNat : Nat))) (h5 : w.cell? ⟨b, 5, none⟩ = some (.int .u8 (q5.toNat : Nat))) (h6 : w.cell? ⟨b, 6, none⟩ = some (.int .u8 (q6.toNat : Nat))) (h7 : w.cell? ⟨b, 7, none⟩ = some (.int .u8 (q7.toNat : Nat))) :
    (convert 34 9 (.slice (some ⟨b, 0, none⟩) 8 8)).run Tryd.prog w = .ok (.string (txt [q0, q1, q2, q3, q4, q5, q6, q7])) w := by
  refine run_convert_bytes_back (P := Tryd.prog) w 34 9 5 ⟨b, 0, none⟩ 8 [q0, q1, q2, q3, q4, q5, q6, q7] Tryd.underlying34 Tryd.underlying5 Tryd.underlying9 ?_
  intro j hj
  match j, hj with
  | 0, _ => exact h0
  | 1, _ => exact h1
  | 2, _ => exact h2
  | 3, _ => exact h3
  | 4, _ => exact h4
  | 5, _ => exact h5
  | 6, _ => exact h6
  | 7, _ => exact h7
theorem oct8_lt (n : Nat) : ∀ x ∈ oct8 n, x < 256 := by
  intro x hx
  simp only [oct8, List.mem_map] at hx
  obtain ⟨i, _, rfl⟩ := hx
  exact Nat.mod_lt _ (by decide)
theorem oct8_bytes (n : Nat) : ∃ q0 q1 q2 q3 q4 q5 q6 q7 : UInt8, oct8 n = asc [q0, q1, q2, q3, q4, q5, q6, q7] :=
  ⟨UInt8.ofNat (n / 256 ^ 0 % 256), UInt8.ofNat (n / 256 ^ 1 % 256), UInt8.ofNat (n / 256 ^ 2 % 256), UInt8.ofNat (n / 256 ^ 3 % 256), UInt8.ofNat (n / 256 ^ 4 % 256), UInt8.ofNat (n / 256 ^ 5 % 256), UInt8.ofNat (n / 256 ^ 6 % 256), UInt8.ofNat (n / 256 ^ 7 % 256), by
    simp [oct8, asc, List.range_succ]⟩
theorem ended_eq (r : ByteArray) (n z : Nat) (hz : (119 - r.size) % 64 = z) (q : List UInt8) (hr : r.size < 64) (hq : oct8 (8 * n) = asc q) : ended (asc r.data.toList) n = asc r.data.toList ++ asc (⟨#[128]⟩ ++ zs z ++ txt q : ByteArray).data.toList := by
  have h0 : asc (⟨#[128]⟩ ++ zs z ++ txt q : ByteArray).data.toList = 128 :: List.replicate z 0 ++ asc q := by
    rw [asc_append, asc_append]
    have e1 : asc (⟨#[128]⟩ : ByteArray).data.toList = [128] := rfl
    have e2 : asc (zs z).data.toList = List.replicate z 0 := by simp [asc, zs]
    have e3 : asc (txt q).data.toList = asc q := rfl
    rw [e1, e2, e3]; rfl
  rw [h0, ended, hq, asc_length, Nat.mod_eq_of_lt hr, hz]; simp
theorem shr_eq (n i : Nat) (_h : i < 8) (_hn : n < 1000000000) : ((8 * (n : Int)) / 2 ^ (8 * i)) % 256 = ((8 * n / 256 ^ i % 256 : Nat) : Int) := by
  rw [show (256 : Nat) ^ i = 2 ^ (8 * i) by rw [Nat.pow_mul]]
  simp

theorem more_lit (st : St) (hst : st.ok) (len : Int) (h0 : 0 ≤ len) (h1 : len ≤ 1000000) (r s : ByteArray) (hr : r.size ≤ 1000000) (hs : s.size ≤ 1000000) (t : St) (ht : changed st (asc r.data.toList ++ asc s.data.toList) = t) (q : ByteArray) (hq : (r ++ s).extract (r.size + s.size - (r.size + s.size) % 64) (r.size + s.size) = q) (w : World) (hK : HasK w) :
    Calls Tryd.prog 32 #[.agg #[.int .u32 st.a, .int .u32 st.b, .int .u32 st.c, .int .u32 st.d, .int .i64 len, .string r], .string s] w fun e w' => e = .returned (.agg #[.int .u32 t.a, .int .u32 t.b, .int .u32 t.c, .int .u32 t.d, .int .i64 (len + s.size), .string q]) ∧ Below w.heap.size w w' := by
  subst ht; subst hq
  exact more_any st hst len h0 h1 r s hr hs w hK

set_option maxRecDepth 100000 in
set_option maxHeartbeats 1000000 in
theorem done_any (s : St) (hs : s.ok) (n : Nat) (hn : n ≤ 1000000) (r : ByteArray) (hr : r.size < 64) (w : World) (hK : HasK w) :
    Calls Tryd.prog 33 #[.agg #[.int .u32 s.a, .int .u32 s.b, .int .u32 s.c, .int .u32 s.d, .int .i64 n, .string r]] w fun e w' => e = .returned (.agg (ob (told (changed s (ended (asc r.data.toList) n))))) ∧ Below w.heap.size w w' := by
  have HK : Hid (HasK w) := hK
  clear hK
  obtain ⟨l, hl⟩ : ∃ l, oct8 (8 * n) = l := ⟨_, rfl⟩
  have Hl := Lib.hid hl
  clear hl
  go_enter Tryd.func33, Tryd.ntmps33
  go_wp2
  go_loopw [4, 7] (fun _ x7 wr => ∃ k : Nat, k ≤ 8 ∧ x7 = .int .i64 k ∧ Below w.heap.size w wr ∧ wr.heap[w.heap.size]? = some (.cells (vd s n r) 61 (0, 0)) ∧ (∃ c, c.size = 16 ∧ wr.heap[w.heap.size + 1]? = some (.cells c 28 (0, 0))) ∧ wr.heap[w.heap.size + 2]? = some (.cells (FL l k) 91 (0, 0))) (fun _ i _ => 8 - (intOf i).toNat)
  case atStart =>
    refine ⟨0, by omega, rfl, (((Below.refl _ _).alloc (Nat.le_refl _) _).alloc (by simp only [World.size_alloc]; omega) _).alloc (by simp only [World.size_alloc]; omega) _, ?_, ?_, by rw [FL_zero]; exact heap_alloc_at _ _ _ (by simp)⟩
    · rw [heap_alloc_lt _ _ _ (by simp only [World.size_alloc]; omega), heap_alloc_lt _ _ _ (by simp)]; exact heap_alloc_at _ _ _ (by simp)
    · refine ⟨_, ?_, by rw [heap_alloc_lt _ _ _ (by simp)]; exact heap_alloc_at _ _ _ (by simp)⟩
      rfl
  case round =>
    obtain ⟨k, hk, rfl, hB, hD, hE, hh⟩ := hrel
    have HD := Lib.hid hD
    have HE := Lib.hid hE
    have Hh := Lib.hid hh
    clear hD hE hh
    by_cases hlt : k < 8
    · have d4 : wr.cell? ⟨w.heap.size, 4, none⟩ = some (.int .i64 n) := cell_of_row _ _ 4 _ _ _ HD.out
      have c0 : wr.cell? ⟨w.heap.size + 1 + 1, k, none⟩ = some (.int .u8 0) := (cell_of_row _ (w.heap.size + 2) k _ _ _ Hh.out).trans (FL_get l k hlt)
      have f0 : wr.frozen? ⟨w.heap.size + 1 + 1, k, none⟩ = false := frozen_of_row _ (w.heap.size + 2) k _ _ Hh.out
      have hv := shr_eq n k hlt (by omega)
      rw [← oct8_get (8 * n) k hlt, Hl.out] at hv
      have Hv := Lib.hid hv
      clear hv
      go_wp2
      go_roundw
      case rel =>
        refine ⟨k + 1, by omega, by go_num, hB.setCell (by show _ ≤ w.heap.size + 1 + 1; omega) _, (Below.heap_setCell _ _ _ _ (by show w.heap.size ≠ w.heap.size + 1 + 1; omega)).trans HD.out, ?_, ?_⟩
        · obtain ⟨c, hc, hE⟩ := HE.out
          exact ⟨c, hc, (Below.heap_setCell _ _ _ _ (by show w.heap.size + 1 ≠ w.heap.size + 1 + 1; omega)).trans hE⟩
        · rw [Hv.out]
          exact (heap_setCell_same _ (w.heap.size + 2) k _ 91 _ Hh.out).trans (by rw [FL_set])
      case measure => simp [intOf]; omega
    · obtain rfl : k = 8 := by omega
      clear hlt hk
      obtain ⟨q0, q1, q2, q3, q4, q5, q6, q7, hq⟩ : ∃ q0 q1 q2 q3 q4 q5 q6 q7 : UInt8, l = asc [q0, q1, q2, q3, q4, q5, q6, q7] := by rw [← Hl.out]; exact oct8_bytes _
      have hA : wr.heap[w.heap.size + 2]? = some (.cells #[.int .u8 (q0.toNat : Nat), .int .u8 (q1.toNat : Nat), .int .u8 (q2.toNat : Nat), .int .u8 (q3.toNat : Nat), .int .u8 (q4.toNat : Nat), .int .u8 (q5.toNat : Nat), .int .u8 (q6.toNat : Nat), .int .u8 (q7.toNat : Nat)] 91 (0, 0)) := by rw [Hh.out, hq]; rfl
      have Hq := Lib.hid hq
      have HA := Lib.hid hA
      have d0 : wr.cell? ⟨w.heap.size, 0, none⟩ = some (.int .u32 s.a) := cell_of_row _ _ 0 _ _ _ HD.out
      have d1 : wr.cell? ⟨w.heap.size, 1, none⟩ = some (.int .u32 s.b) := cell_of_row _ _ 1 _ _ _ HD.out
      have d2 : wr.cell? ⟨w.heap.size, 2, none⟩ = some (.int .u32 s.c) := cell_of_row _ _ 2 _ _ _ HD.out
      have d3 : wr.cell? ⟨w.heap.size, 3, none⟩ = some (.int .u32 s.d) := cell_of_row _ _ 3 _ _ _ HD.out
      have d4 : wr.cell? ⟨w.heap.size, 4, none⟩ = some (.int .i64 n) := cell_of_row _ _ 4 _ _ _ HD.out
      have d5 : wr.cell? ⟨w.heap.size, 5, none⟩ = some (.string r) := cell_of_row _ _ 5 _ _ _ HD.out
      have a0 : wr.cell? ⟨w.heap.size + 1 + 1, 0, none⟩ = some (.int .u8 (q0.toNat : Nat)) := cell_of_row _ (w.heap.size + 2) 0 _ _ _ HA.out
      have a1 : wr.cell? ⟨w.heap.size + 1 + 1, 1, none⟩ = some (.int .u8 (q1.toNat : Nat)) := cell_of_row _ (w.heap.size + 2) 1 _ _ _ HA.out
      have a2 : wr.cell? ⟨w.heap.size + 1 + 1, 2, none⟩ = some (.int .u8 (q2.toNat : Nat)) := cell_of_row _ (w.heap.size + 2) 2 _ _ _ HA.out
      have a3 : wr.cell? ⟨w.heap.size + 1 + 1, 3, none⟩ = some (.int .u8 (q3.toNat : Nat)) := cell_of_row _ (w.heap.size + 2) 3 _ _ _ HA.out
      have a4 : wr.cell? ⟨w.heap.size + 1 + 1, 4, none⟩ = some (.int .u8 (q4.toNat : Nat)) := cell_of_row _ (w.heap.size + 2) 4 _ _ _ HA.out
      have a5 : wr.cell? ⟨w.heap.size + 1 + 1, 5, none⟩ = some (.int .u8 (q5.toNat : Nat)) := cell_of_row _ (w.heap.size + 2) 5 _ _ _ HA.out
      have a6 : wr.cell? ⟨w.heap.size + 1 + 1, 6, none⟩ = some (.int .u8 (q6.toNat : Nat)) := cell_of_row _ (w.heap.size + 2) 6 _ _ _ HA.out
      have a7 : wr.cell? ⟨w.heap.size + 1 + 1, 7, none⟩ = some (.int .u8 (q7.toNat : Nat)) := cell_of_row _ (w.heap.size + 2) 7 _ _ _ HA.out
      clear hq hA Hh
      go_wp2_with fail
      have hz : ((119 - (r.size : Int)) % 64) = ((119 - r.size) % 64 : Nat) := by omega
      rw [hz]
      have hsz : w.heap.size + 1 + 1 < wr.heap.size := (Array.getElem?_eq_some_iff.1 HA.out).1
      obtain ⟨z, hzz⟩ : ∃ z, (119 - r.size) % 64 = z := ⟨_, rfl⟩
      have hz64 : z < 64 := by omega
      rw [hzz]
      have Hz := Lib.hid hzz
      have hzs : (zs z).size ≤ 63 := by rw [zs_size]; omega
      have hs0 : w.heap.size < wr.heap.size := by omega
      clear hz hzz
      have htx : (txt [q0, q1, q2, q3, q4, q5, q6, q7]).size ≤ 8 := Nat.le_refl 8
      have hcv := conv8 q0 q1 q2 q3 q4 q5 q6 q7 (w.heap.size + 1 + 1)
      obtain ⟨X, hX⟩ : ∃ X : ByteArray, ⟨#[128]⟩ ++ zs z ++ txt [q0, q1, q2, q3, q4, q5, q6, q7] = X := ⟨_, rfl⟩
      have hXs : X.size ≤ 1000000 := by
        rw [← hX]; simp only [ByteArray.size_append]; have e1 : (⟨#[128]⟩ : ByteArray).size = 1 := rfl; omega
      obtain ⟨t, ht⟩ : ∃ t, changed s (asc r.data.toList ++ asc X.data.toList) = t := ⟨_, rfl⟩
      obtain ⟨q, hqe⟩ : ∃ q, (r ++ X).extract (r.size + X.size - (r.size + X.size) % 64) (r.size + X.size) = q := ⟨_, rfl⟩
      have HM : Hid (∀ W : World, HasK W → _) := fun (W : World) (h : HasK W) => more_lit s hs n (by omega) (by omega) r X (by omega) hXs t ht q hqe W h
      have Ht := Lib.hid ht
      have HX := Lib.hid hX
      clear ht hqe hX
      have D0 : ∀ W, Below wr.heap.size wr W → W.cell? ⟨w.heap.size, 0, none⟩ = some (.int .u32 s.a) := fun W h => (h.cell (p := ⟨w.heap.size, 0, none⟩) hs0).trans d0
      have D1 : ∀ W, Below wr.heap.size wr W → W.cell? ⟨w.heap.size, 1, none⟩ = some (.int .u32 s.b) := fun W h => (h.cell (p := ⟨w.heap.size, 1, none⟩) hs0).trans d1
      have D2 : ∀ W, Below wr.heap.size wr W → W.cell? ⟨w.heap.size, 2, none⟩ = some (.int .u32 s.c) := fun W h => (h.cell (p := ⟨w.heap.size, 2, none⟩) hs0).trans d2
      have D3 : ∀ W, Below wr.heap.size wr W → W.cell? ⟨w.heap.size, 3, none⟩ = some (.int .u32 s.d) := fun W h => (h.cell (p := ⟨w.heap.size, 3, none⟩) hs0).trans d3
      have D4 : ∀ W, Below wr.heap.size wr W → W.cell? ⟨w.heap.size, 4, none⟩ = some (.int .i64 n) := fun W h => (h.cell (p := ⟨w.heap.size, 4, none⟩) hs0).trans d4
      have D5 : ∀ W, Below wr.heap.size wr W → W.cell? ⟨w.heap.size, 5, none⟩ = some (.string r) := fun W h => (h.cell (p := ⟨w.heap.size, 5, none⟩) hs0).trans d5
      have CV : ∀ W, Below wr.heap.size wr W → (convert 34 9 (.slice (some ⟨w.heap.size + 1 + 1, 0, none⟩) 8 8)).run Tryd.prog W = .ok (.string (txt [q0, q1, q2, q3, q4, q5, q6, q7])) W := fun W h => hcv W ((h.cell (p := ⟨w.heap.size + 1 + 1, 0, none⟩) hsz).trans a0) ((h.cell (p := ⟨w.heap.size + 1 + 1, 1, none⟩) hsz).trans a1) ((h.cell (p := ⟨w.heap.size + 1 + 1, 2, none⟩) hsz).trans a2) ((h.cell (p := ⟨w.heap.size + 1 + 1, 3, none⟩) hsz).trans a3) ((h.cell (p := ⟨w.heap.size + 1 + 1, 4, none⟩) hsz).trans a4) ((h.cell (p := ⟨w.heap.size + 1 + 1, 5, none⟩) hsz).trans a5) ((h.cell (p := ⟨w.heap.size + 1 + 1, 6, none⟩) hsz).trans a6) ((h.cell (p := ⟨w.heap.size + 1 + 1, 7, none⟩) hsz).trans a7)
      have KK : Hid (∀ W, Below wr.heap.size wr W → HasK W) := fun W h => HK.out.below (hB.trans (h.mono (Nat.le_of_lt hs0))) HK.out.pos
      have hrefl : Below wr.heap.size wr wr := Below.refl _ _
      have hreflD : Below wr.heap.size wr wr.drew := (Below.refl _ _).drew
      clear hcv d0 d1 d2 d3 d4 d5 a0 a1 a2 a3 a4 a5 a6 a7
      have hadd1 : ∀ W, (Op.stringOp .add ⟨#[128]⟩ (zs z)).run Tryd.prog W = .ok (.string (⟨#[128]⟩ ++ zs z)) W := fun W => run_string_add W _ _ (by decide) (by omega)
      have hadd2 : ∀ W, (Op.stringOp .add (⟨#[128]⟩ ++ zs z) (txt [q0, q1, q2, q3, q4, q5, q6, q7])).run Tryd.prog W = .ok (.string X) W := fun W => (run_string_add W _ _ (by rw [ByteArray.size_append]; have e1 : (⟨#[128]⟩ : ByteArray).size = 1 := rfl; omega) (by omega)).trans (by rw [HX.out])
      go_cut [6] (fun x6 W => ∃ B : Nat, x6 = .pointer (some ⟨B, 0, none⟩) ∧ W.heap[B]? = some (.cells (vd t (n + X.size) q) 61 (0, 0)) ∧ Below wr.heap.size wr W)
      case first =>
        go_region_held3 (fun W => Below wr.heap.size wr W) (first | with_reducible exact HB3 | with_reducible exact HB1 | with_reducible exact hrefl | with_reducible exact hreflD | with_reducible exact HB3.alloc HB3.size _ | with_reducible exact HB1.alloc HB1.size _ | with_reducible exact hreflD.alloc hreflD.size _ | with_reducible exact hrefl.alloc hrefl.size _ | with_reducible exact (hrefl.alloc hrefl.size _).drew | ((iterate 6 refine Below.setCell ?_ (by first | exact HS1.out | exact Nat.le_refl _) _); exact HB3)) (first | (go_at_call 27; refine (repeat0_any z (by omega) _).mono ?_; rintro e w1 ⟨rfl, hB1⟩; have HB1 : Below wr.heap.size wr w1 := (by have h := hB1; (try simp only [World.size_drew, World.size_alloc] at h); first | with_reducible exact (hreflD.trans h) | with_reducible exact (hreflD.alloc (Nat.le_refl _) _).trans (h.mono (Nat.le_succ _)) | with_reducible exact ((hrefl.alloc (Nat.le_refl _) _).drew).trans (h.mono (Nat.le_succ _))); (first | (have HZ1 : Hid (w1.heap[wr.heap.size]? = some (.cells #[.int .u32 0, .int .u32 0, .int .u32 0, .int .u32 0, .int .i64 0, .string ⟨#[]⟩] 61 (0, 0))) := (hB1.block _ (by simp)).trans (heap_alloc_at _ _ _ rfl)) | skip); clear hB1) | (go_at_call 32; refine (HM.out _ (KK.out _ (by first | with_reducible exact HB1 | with_reducible exact HB1.alloc HB1.size _))).mono ?_; rintro e w2 ⟨rfl, hB2⟩; have HB2 : Below w1.heap.size w1 w2 := (by have h := hB2; (try simp only [World.size_alloc] at h); first | with_reducible exact h | with_reducible exact ((Below.refl _ _).alloc (Nat.le_refl _) _).trans (h.mono (Nat.le_succ _))); (first | (have HZ2 : Hid (w2.heap[w1.heap.size]? = some (.cells #[.int .u32 0, .int .u32 0, .int .u32 0, .int .u32 0, .int .i64 0, .string ⟨#[]⟩] 61 (0, 0))) := (hB2.block _ (by simp)).trans (heap_alloc_at _ _ _ rfl); have g0 : w2.cell? ⟨w1.heap.size, 0, none⟩ = some (.int .u32 0) := cell_of_row _ _ 0 _ _ _ HZ2.out; have f0 : w2.frozen? ⟨w1.heap.size, 0, none⟩ = false := frozen_of_row _ _ 0 _ _ HZ2.out; have g1 : w2.cell? ⟨w1.heap.size, 1, none⟩ = some (.int .u32 0) := cell_of_row _ _ 1 _ _ _ HZ2.out; have f1 : w2.frozen? ⟨w1.heap.size, 1, none⟩ = false := frozen_of_row _ _ 1 _ _ HZ2.out; have g2 : w2.cell? ⟨w1.heap.size, 2, none⟩ = some (.int .u32 0) := cell_of_row _ _ 2 _ _ _ HZ2.out; have f2 : w2.frozen? ⟨w1.heap.size, 2, none⟩ = false := frozen_of_row _ _ 2 _ _ HZ2.out; have g3 : w2.cell? ⟨w1.heap.size, 3, none⟩ = some (.int .u32 0) := cell_of_row _ _ 3 _ _ _ HZ2.out; have f3 : w2.frozen? ⟨w1.heap.size, 3, none⟩ = false := frozen_of_row _ _ 3 _ _ HZ2.out; have g4 : w2.cell? ⟨w1.heap.size, 4, none⟩ = some (.int .i64 0) := cell_of_row _ _ 4 _ _ _ HZ2.out; have f4 : w2.frozen? ⟨w1.heap.size, 4, none⟩ = false := frozen_of_row _ _ 4 _ _ HZ2.out; have g5 : w2.cell? ⟨w1.heap.size, 5, none⟩ = some (.string ⟨#[]⟩) := cell_of_row _ _ 5 _ _ _ HZ2.out; have f5 : w2.frozen? ⟨w1.heap.size, 5, none⟩ = false := frozen_of_row _ _ 5 _ _ HZ2.out) | (have HZ2 : Hid (w2.heap[wr.heap.size]? = some (.cells #[.int .u32 0, .int .u32 0, .int .u32 0, .int .u32 0, .int .i64 0, .string ⟨#[]⟩] 61 (0, 0))) := (HB2.block _ (Array.getElem?_eq_some_iff.1 HZ1.out).1).trans HZ1.out; have g0 : w2.cell? ⟨wr.heap.size, 0, none⟩ = some (.int .u32 0) := cell_of_row _ _ 0 _ _ _ HZ2.out; have f0 : w2.frozen? ⟨wr.heap.size, 0, none⟩ = false := frozen_of_row _ _ 0 _ _ HZ2.out; have g1 : w2.cell? ⟨wr.heap.size, 1, none⟩ = some (.int .u32 0) := cell_of_row _ _ 1 _ _ _ HZ2.out; have f1 : w2.frozen? ⟨wr.heap.size, 1, none⟩ = false := frozen_of_row _ _ 1 _ _ HZ2.out; have g2 : w2.cell? ⟨wr.heap.size, 2, none⟩ = some (.int .u32 0) := cell_of_row _ _ 2 _ _ _ HZ2.out; have f2 : w2.frozen? ⟨wr.heap.size, 2, none⟩ = false := frozen_of_row _ _ 2 _ _ HZ2.out; have g3 : w2.cell? ⟨wr.heap.size, 3, none⟩ = some (.int .u32 0) := cell_of_row _ _ 3 _ _ _ HZ2.out; have f3 : w2.frozen? ⟨wr.heap.size, 3, none⟩ = false := frozen_of_row _ _ 3 _ _ HZ2.out; have g4 : w2.cell? ⟨wr.heap.size, 4, none⟩ = some (.int .i64 0) := cell_of_row _ _ 4 _ _ _ HZ2.out; have f4 : w2.frozen? ⟨wr.heap.size, 4, none⟩ = false := frozen_of_row _ _ 4 _ _ HZ2.out; have g5 : w2.cell? ⟨wr.heap.size, 5, none⟩ = some (.string ⟨#[]⟩) := cell_of_row _ _ 5 _ _ _ HZ2.out; have f5 : w2.frozen? ⟨wr.heap.size, 5, none⟩ = false := frozen_of_row _ _ 5 _ _ HZ2.out) | skip); have HB3 : Below wr.heap.size wr w2 := HB1.trans (HB2.mono HB1.size); have HS1 : Hid (wr.heap.size ≤ w1.heap.size) := HB1.size; clear hB2))
        all_goals go_wp2_with fail
        all_goals go_meet
        · exact ⟨_, rfl, heap_alloc_at _ _ _ rfl, HB3.alloc HB3.size _⟩
        · exact ⟨_, rfl, heap_setCell_same _ _ 5 _ 61 _ (heap_setCell_same _ _ 4 _ 61 _ (heap_setCell_same _ _ 3 _ 61 _ (heap_setCell_same _ _ 2 _ 61 _ (heap_setCell_same _ _ 1 _ 61 _ (heap_setCell_same _ _ 0 _ 61 _ HZ2.out))))), by (iterate 6 refine Below.setCell ?_ (by first | exact HS1.out | exact Nat.le_refl _) _); exact HB3⟩
        · exact ⟨_, rfl, heap_setCell_same _ _ 5 _ 61 _ (heap_setCell_same _ _ 4 _ 61 _ (heap_setCell_same _ _ 3 _ 61 _ (heap_setCell_same _ _ 2 _ 61 _ (heap_setCell_same _ _ 1 _ 61 _ (heap_setCell_same _ _ 0 _ 61 _ HZ2.out))))), by (iterate 6 refine Below.setCell ?_ (by first | exact HS1.out | exact Nat.le_refl _) _); exact HB3⟩
      case rest =>
        obtain ⟨B, rfl, hO, hB4⟩ := hcut
        have HO := Lib.hid hO
        have HB4 := Lib.hid hB4
        obtain ⟨c, hc, hE⟩ := HE.out
        have HC := Lib.hid hc
        have hlt1 : w.heap.size + 1 < wr.heap.size := by omega
        have hE2 := (hB4.block _ hlt1).trans hE
        have HE2 := Lib.hid hE2
        have o0 : wc.cell? ⟨B, 0, none⟩ = some (.int .u32 t.a) := cell_of_row _ _ 0 _ _ _ HO.out
        have o1 : wc.cell? ⟨B, 1, none⟩ = some (.int .u32 t.b) := cell_of_row _ _ 1 _ _ _ HO.out
        have o2 : wc.cell? ⟨B, 2, none⟩ = some (.int .u32 t.c) := cell_of_row _ _ 2 _ _ _ HO.out
        have o3 : wc.cell? ⟨B, 3, none⟩ = some (.int .u32 t.d) := cell_of_row _ _ 3 _ _ _ HO.out
        clear hO hE hc hE2 D0 D1 D2 D3 D4 D5 CV hadd1 hadd2
        have hlc : w.heap.size + 1 < wc.heap.size := by have := hB4.size; omega
        go_wp2_with fail
        refine (filled_any t _).mono ?_
        rintro e w3 ⟨rfl, hB5⟩
        have HE3 : Hid (w3.heap[w.heap.size + 1]? = some (.cells c 28 (0, 0))) := Lib.hid ((hB5.block _ hlc).trans HE2.out)
        have HB5 := Lib.hid hB5
        clear hB5 o0 o1 o2 o3
        go_wp2_with ((with_reducible refine wpList_store_row rfl 28 _ _ rfl (w.heap.size + 1) (ob (told t)) ?_ ?_ 28 _ HE3.out 16 ?_ ?_ ?_ ?_ ?_); (next => rfl); (next => rfl); (next => kernel_rfl); (next => exact HC.out); (next => simp [ob, told_length]); (next => exact ob_one _))
        refine bodyPost_ret (v := .agg (ob (told t))) (results_row rfl _ _ (w.heap.size + 1) 28 _ _ rfl (setRow_heap _ _ _ _ _ _ HE3.out) Tryd.underlying28 rfl 16 (by kernel_rfl) (by simp [ob, told_length])) rfl ⟨?_, ?_⟩
        · rw [← Ht.out, ← HX.out, ended_eq r n z Hz.out _ hr (Hl.out.trans Hq.out)]
        · exact below_setRow ((hB.trans (HB4.out.mono (Nat.le_of_lt hs0))).trans (HB5.out.mono (by omega))) (by omega) _
end Go.Proofs.YtfhddcjepgjfnaaDoor
