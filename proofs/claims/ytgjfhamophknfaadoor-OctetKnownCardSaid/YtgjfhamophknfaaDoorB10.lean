/- Walks: the reference's octets. -/
import Derived.Test.YtgjfhamophknfaaDoorB9
namespace Go.Proofs.YtgjfhamophknfaaDoor
open Go.RowKit

/-- A row of k zeros and then the octets l. -/
def rN (k : Nat) (l : List Nat) : Array Value := ((List.replicate k 0 ++ l).map fun n : Nat => Value.int .u8 (n : Int)).toArray
theorem rN_start (n : Nat) : zrow n = rN n [] := by
  apply Array.ext'
  rw [show (zrow n).toList = List.replicate n (Value.int .u8 0) from toList_madeCells_one _ _]
  simp [rN]
theorem rN_get (k : Nat) (l : List Nat) : (rN (k + 1) l)[k]? = some (.int .u8 0) := by
  simp [rN, List.getElem?_append]
theorem rN_set (k : Nat) (l : List Nat) (c : Nat) : (rN (k + 1) l).setIfInBounds k (.int .u8 (c : Int)) = rN k (c :: l) := by
  apply Array.ext_getElem?
  intro j
  simp only [rN, Array.getElem?_setIfInBounds, List.getElem?_toArray, List.getElem?_map, List.size_toArray, List.length_map, List.getElem?_append, List.length_replicate, List.length_append]
  by_cases hj : k = j
  · subst hj
    simp
    omega
  · rw [if_neg hj]
    by_cases h2 : j < k
    · have h3 : j < k + 1 := by omega
      simp [h2, h3]
    · have h3 : ¬ j < k + 1 := by omega
      rw [if_neg h2, if_neg h3, show j - k = (j - (k + 1)) + 1 by omega, List.getElem?_cons_succ]
theorem rN_zero (l : List Nat) (j : Nat) (h : j < l.length) : (rN 0 l)[j]? = some (.int .u8 (l[j] : Nat)) := by
  simp [rN, h]

set_option maxRecDepth 100000 in
set_option maxHeartbeats 1000000 in
theorem octets_any (x n : Nat) (hx : x < 9223372036854775808) (hn : n ≤ 8) (w : World) :
    Calls Tryd.prog 47 #[.int .i64 x, .int .i64 n] w fun e w' => e = .returned (.string (txtN (octs x n))) ∧ Below w.heap.size w w' := by
  have hmk := make_bytes n (by omega) w
  rw [rN_start] at hmk
  have I1 := (Iv.start w).new (rN n []) 5
  have I2 := Lib.hid I1
  obtain ⟨T, hT⟩ : ∃ T : List Nat, octs x n = T := ⟨_, rfl⟩
  have hTl : T.length = n := hT ▸ octs_length x n
  have hTc := octs_lt x n
  rw [hT] at hTc ⊢
  have HT := Lib.hid hT
  have HTL := Lib.hid hTl
  have HTC := Lib.hid hTc
  obtain ⟨q, hq⟩ : ∃ q : ByteArray, txtN T = q := ⟨_, rfl⟩
  rw [hq]
  have HQ := Lib.hid hq
  clear I1 hT hTl hTc hq
  go_enter Tryd.func47, Tryd.ntmps47
  go_wp2_with fail
  go_loopw [0, 6] (fun x0 x6 W => ∃ (k y : Nat) (l : List Nat), k ≤ n ∧ y < 9223372036854775808 ∧ Hid (T = octs y k ++ l) ∧ x0 = .int .i64 y ∧ x6 = .int .i64 ((k : Int) - 1) ∧ Iv w W [(w.heap.size, rN k l, 5)]) (fun _ i _ => (intOf i + 1).toNat)
  case atStart => exact ⟨n, x, [], Nat.le_refl _, hx, by rw [List.append_nil]; exact HT.out.symm, rfl, by go_num, I2.out⟩
  case round =>
    obtain ⟨k, y, l, hk, hy, HL, rfl, rfl, hI⟩ := hrel
    have J := Lib.hid hI
    clear hI I2 hmk
    rcases k with _ | k
    · have hTl : T = l := HL.out
      have hcv := run_convert_bytes_back (P := Tryd.prog) wr 68 9 5 ⟨w.heap.size, 0, none⟩ n (T.map UInt8.ofNat) Tryd.underlying68 Tryd.underlying5 Tryd.underlying9 (by
        intro j hj
        have hj' : j < T.length := by simpa using hj
        have hj2 : j < l.length := hTl ▸ hj'
        have hc : T[j] < 256 := HTC.out _ (List.getElem_mem hj')
        rw [Addr.add_mid, Nat.zero_add, cell_of_row _ _ _ _ _ _ (J.out.get 0 rfl), rN_zero l j hj2, List.getElem_map]
        subst hTl
        simp
        omega)
      rw [List.length_map, HTL.out] at hcv
      rw [show (⟨(T.map UInt8.ofNat).toArray⟩ : ByteArray) = q from HQ.out] at hcv
      clear hTl
      go_wp2_with fail
      go_ret
      exact ⟨rfl, J.out.below⟩
    · have c0 := J.out.cell 0 rfl k (rN_get k l)
      have f0 := J.out.free 0 rfl k
      have e1 : ((k + 1 : Nat) : Int) - 1 = (k : Nat) := by omega
      rw [e1]
      clear e1
      go_wp2_with fail
      go_roundw
      case rel =>
        refine ⟨k, y / 256, (y % 256) :: l, by omega, by omega, ?_, rfl, rfl, ?_⟩
        · show _ = _
          rw [HL.out]; simp [octs]
        · rw [← rN_set]
          exact J.out.set (Nat.le_refl _) (fun x hx => by cases hx) k _
      case measure => simp [intOf]
end Go.Proofs.YtgjfhamophknfaaDoor
