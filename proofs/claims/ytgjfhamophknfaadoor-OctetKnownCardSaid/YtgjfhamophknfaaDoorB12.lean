/- Walks: the closures of writers. -/
import Derived.Test.YtgjfhamophknfaaDoorB11
namespace Go.Proofs.YtgjfhamophknfaaDoor
open Go.RowKit

set_option maxRecDepth 100000 in
set_option maxHeartbeats 1000000 in
theorem w74_any (lo hi n : Int) (w : World) :
    Calls Tryd.prog 74 #[.int .i64 lo, .int .i64 hi, .int .i64 n] w fun e w' => e = .returned (.agg #[.int .i64 lo, .int .i64 hi, .func (.func 75) #[] #[.pointer (some ⟨w.heap.size, 0, none⟩)]]) ∧ Below w.heap.size w w' ∧ w'.heap[w.heap.size]? = some (.cells #[.int .i64 n] 3 (0, 0)) := by
  have I1 := (Iv.start w).new #[.int .i64 n] 3
  have I := (I1.new #[.int .i64 lo, .int .i64 hi, .func (.func 75) #[] #[.pointer (some ⟨w.heap.size, 0, none⟩)]] 89)
  have J := Lib.hid I
  have HH : ((w.alloc (.cells #[.int .i64 n] 3)).alloc (.cells #[.int .i64 lo, .int .i64 hi, .func (.func 75) #[] #[.pointer (some ⟨w.heap.size, 0, none⟩)]] 89)).heap[w.heap.size + 1]? = some (.cells #[.int .i64 lo, .int .i64 hi, .func (.func 75) #[] #[.pointer (some ⟨w.heap.size, 0, none⟩)]] 89 (0, 0)) := by
    have := I.get 0 rfl
    simpa using this
  have HH := Lib.hid HH
  clear I I1
  go_enter Tryd.func74, Tryd.ntmps74
  go_wp2_with fail
  exact bodyPost_ret (v := .agg #[.int .i64 lo, .int .i64 hi, .func (.func 75) #[] #[.pointer (some ⟨w.heap.size, 0, none⟩)]]) (results_row rfl _ _ (w.heap.size + 1) 89 _ _ rfl HH.out Tryd.underlying89 rfl 3 (by kernel_rfl) rfl) rfl ⟨rfl, J.out.below, J.out.get 1 rfl⟩
/-- The four octets of a writer, the first k written. -/
def R4 (l : List Nat) (k : Nat) : Array Value := ((List.range 4).map fun j => Value.int .u8 (if j < k then l.getD j 0 else 0 : Nat)).toArray
theorem R4_zero (l : List Nat) : R4 l 0 = #[.int .u8 0, .int .u8 0, .int .u8 0, .int .u8 0] := by simp [R4]; rfl
theorem R4_get (l : List Nat) (k : Nat) (h : k < 4) : (R4 l k)[k]? = some (.int .u8 0) := by
  simp [R4, h]
theorem R4_set (l : List Nat) (k : Nat) : (R4 l k).setIfInBounds k (.int .u8 (l.getD k 0 : Nat)) = R4 l (k + 1) := by
  apply Array.ext_getElem?
  intro j
  simp only [R4, Array.getElem?_setIfInBounds, List.getElem?_toArray, List.getElem?_map, List.size_toArray, List.length_map, List.length_range]
  by_cases hj : k = j
  · subst hj
    by_cases h16 : k < 4
    · simp [h16]
    · simp [h16]
  · by_cases h16 : j < 4
    · have e : (j < k + 1) = (j < k) := by simp; omega
      simp [hj, h16, e]
    · simp [hj, h16]
theorem oct4 (x : Int) : octs (x % 4294967296).toNat 4 = [(x / 16777216 % 256).toNat, (x / 65536 % 256).toNat, (x / 256 % 256).toNat, (x % 256).toNat] := by
  simp only [octs, List.nil_append, List.cons_append]
  congr 1
  · omega
  congr 1
  · omega
  congr 1
  · omega
  congr 1
  omega
set_option maxRecDepth 100000 in
set_option maxHeartbeats 1000000 in
theorem w75_any (x : Int) (n : Nat) (b : Nat) (w : World) (hn1 : 1 ≤ n) (hn : n ≤ 4) (hb : w.heap[b]? = some (.cells #[.int .i64 n] 3 (0, 0))) :
    Calls Tryd.prog 75 #[.int .i64 x, .pointer (some ⟨b, 0, none⟩)] w fun e w' => e = .returned (.string (txtN ((octs (x % 4294967296).toNat 4).drop (4 - n)))) ∧ Below w.heap.size w w' := by
  have HB := Lib.hid hb
  obtain ⟨l, hl⟩ : ∃ l, octs (x % 4294967296).toNat 4 = l := ⟨_, rfl⟩
  have HL := Lib.hid hl
  have HN := Lib.hid (show l.length = 4 from hl ▸ octs_length _ 4)
  have HC := Lib.hid (show ∀ c ∈ l, c < 256 from hl ▸ octs_lt _ 4)
  have hbl : b < w.heap.size := (Array.getElem?_eq_some_iff.1 hb).1
  rw [hl]
  obtain ⟨q, hq⟩ : ∃ q : ByteArray, txtN (l.drop (4 - n)) = q := ⟨_, rfl⟩
  have HQ := Lib.hid hq
  rw [hq]
  have I1 := (Iv.start w).new (R4 l 0) 80
  rw [R4_zero] at I1
  have J1 := Lib.hid I1
  clear hb hl hq I1
  go_enter Tryd.func75, Tryd.ntmps75
  go_wp2_with fail
  go_loopw [5, 6] (fun _ x6 W => ∃ k : Nat, k ≤ 4 ∧ x6 = .int .i64 k ∧ Iv w W [(w.heap.size, R4 l k, 80)]) (fun _ i _ => (4 - intOf i).toNat)
  case atStart => exact ⟨0, by omega, rfl, by rw [R4_zero]; exact J1.out⟩
  case round =>
    obtain ⟨k, hk, rfl, hI⟩ := hrel
    have J := Lib.hid hI
    clear hI
    by_cases hlt : k < 4
    · have c0 := J.out.cell 0 rfl k (R4_get l k hlt)
      have f0 := J.out.free 0 rfl k
      have hv : x / 2 ^ (8 * (3 - k)) % 256 = ((l.getD k 0 : Nat) : Int) := by
        rw [← HL.out, oct4]
        match k, hlt with
        | 0, _ => simp; omega
        | 1, _ => simp; omega
        | 2, _ => simp; omega
        | 3, _ => simp; omega
      have HV := Lib.hid hv
      clear hv
      go_wp2_with fail
      go_roundw
      case rel =>
        refine ⟨k + 1, by omega, rfl, ?_⟩
        rw [HV.out, ← R4_set]
        exact J.out.set (Nat.le_refl _) (fun x hx => by cases hx) k _
      case measure => simp [intOf]; omega
    · obtain rfl : k = 4 := by omega
      clear hlt hk
      have hbn : wr.cell? ⟨b, 0, none⟩ = some (.int .i64 n) := cell_of_row _ _ _ _ _ _ ((J.out.below.block _ hbl).trans HB.out)
      have hsl : (Instr.sliceAt 80 (.pointer (some ⟨w.heap.size, 0, none⟩)) (some (.int .i64 (4 - (n : Int)))) none none).run Tryd.prog wr = .ok (.slice (some ⟨w.heap.size, 4 - n, none⟩) n n) wr := by
        have ha : Tryd.prog.arrayLen 80 = 4 := by kernel_rfl
        have he : Tryd.prog.elem 80 = 5 := by kernel_rfl
        rw [run_sliceAt_array_l wr 80 _ (by kernel_rfl) .i64 _ (by omega) (by rw [ha]; omega), ha, he, Tryd.sizeOf5]
        have e : (4 - (n : Int)).toNat = 4 - n := by omega
        have e2 : ¬ (4 = 4 - n) := by omega
        have e3 : 4 - (4 - n) = n := by omega
        rw [e]
        simp [slicedAt, e2, e3, Addr.add]
        intro h; omega
      have hcv := run_convert_bytes_back (P := Tryd.prog) wr 68 9 5 ⟨w.heap.size, 4 - n, none⟩ n ((l.drop (4 - n)).map UInt8.ofNat) Tryd.underlying68 Tryd.underlying5 Tryd.underlying9 (by
        intro j hj
        have hj' : j < l.length - (4 - n) := by simpa using hj
        have hj2 : 4 - n + j < l.length := by omega
        have hc : l[4 - n + j] < 256 := HC.out _ (List.getElem_mem hj2)
        have hlen := HN.out
        have hr : (R4 l 4)[4 - n + j]? = some (.int .u8 (l[4 - n + j] : Nat)) := by
          have : 4 - n + j < 4 := by omega
          simp [R4, this, hj2]
        rw [Addr.add_mid, cell_of_row _ _ _ _ _ _ (J.out.get 0 rfl), hr, List.getElem_map, List.getElem_drop]
        simp
        omega)
      rw [List.length_map, List.length_drop, HN.out, show 4 - (4 - n) = n by omega, show (⟨((l.drop (4 - n)).map UInt8.ofNat).toArray⟩ : ByteArray) = q from HQ.out] at hcv
      go_wp2_with fail
      go_ret
      exact ⟨rfl, J.out.below⟩
end Go.Proofs.YtgjfhamophknfaaDoor
