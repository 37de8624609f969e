/- Laws of parts, halves, padding. -/
import Derived.Test.YtgjfhamophknfaaDoorB20
namespace Go.Proofs.YtgjfhamophknfaaDoor
open Go.RowKit

theorem partE_in (s : ByteArray) (a n : Nat) (hs : s.size ≤ 65536) (h : a + n ≤ s.size) : partE s a n = 0 := by
  unfold partE; rw [if_neg (by omega), if_neg (by omega), if_neg (by omega)]
theorem partS_in (s : ByteArray) (a n : Nat) (hs : s.size ≤ 65536) (h : a + n ≤ s.size) : partS s a n = s.extract a (a + n) := by
  unfold partS; rw [if_pos (by omega)]
  rw [Int.toNat_natCast, show ((a : Int) + n).toNat = a + n by omega]
theorem tmod_nat (a b : Nat) : Int.tmod (a : Int) (b : Int) = ((a % b : Nat) : Int) := by
  rw [Int.tmod_eq_emod_of_nonneg (by omega)]; simp

theorem data_extract (s : ByteArray) (a b : Nat) : (s.extract a b).data.toList = (s.data.toList.drop a).take (b - a) := by
  have h := Lib.extract_eq s a b
  rw [h]
theorem extract_in (s : ByteArray) (a m b : Nat) (_hb : b ≤ m) : (s.extract a (a + m)).extract b m = s.extract (a + b) (a + m) := by
  rw [ByteArray.extract_extract, Nat.min_self]
theorem asc_part (s : ByteArray) (a n i : Nat) (hi : i < n) : (asc (s.extract a (a + n)).data.toList).getD i 0 = (asc s.data.toList).getD (a + i) 0 := by
  rw [data_extract]
  unfold asc
  rw [List.getD_eq_getElem?_getD, List.getD_eq_getElem?_getD, List.getElem?_map, List.getElem?_map, List.getElem?_take_of_lt (by omega), List.getElem?_drop]
theorem halves (p : ByteArray) (h4 : 4 ≤ p.size) (hp : p.size ≤ 65536) : numS p 0 4 = numS p 0 2 * 65536 + numS p 2 2 := by
  have e0 : partE p 0 4 = 0 := partE_in p 0 4 hp (by omega)
  have e1 : partE p 0 2 = 0 := partE_in p 0 2 hp (by omega)
  have e2 : partE p 2 2 = 0 := partE_in p 2 2 hp (by omega)
  have s0 : partS p 0 4 = p.extract 0 (0 + 4) := partS_in p 0 4 hp (by omega)
  have s1 : partS p 0 2 = p.extract 0 (0 + 2) := partS_in p 0 2 hp (by omega)
  have s2 : partS p 2 2 = p.extract 2 (2 + 2) := partS_in p 2 2 hp (by omega)
  unfold numS
  rw [show partE p 0 ((4 : Nat) : Int) = 0 from e0, show partE p 0 ((2 : Nat) : Int) = 0 from e1, show partE p 2 ((2 : Nat) : Int) = 0 from e2, if_pos rfl, if_pos rfl, if_pos rfl,
    show partS p 0 ((4 : Nat) : Int) = _ from s0, show partS p 0 ((2 : Nat) : Int) = _ from s1, show partS p 2 ((2 : Nat) : Int) = _ from s2]
  simp only [num]
  rw [asc_part p 0 4 0 (by omega), asc_part p 0 4 1 (by omega), asc_part p 0 4 2 (by omega), asc_part p 0 4 3 (by omega), asc_part p 0 2 0 (by omega), asc_part p 0 2 1 (by omega), asc_part p 2 2 0 (by omega), asc_part p 2 2 1 (by omega)]
  simp only [Nat.reduceAdd, Nat.zero_add]
  omega
theorem trim0_zb (z : Nat) : trim0 (zb z) = ⟨#[]⟩ := by
  unfold trim0 zb Lib.trimB
  rw [Lib.trimRightB_take (List.replicate z (0 : UInt8)) 0 0 (Nat.zero_le _) (fun j b _ hb => by
    rw [List.getElem?_replicate] at hb
    split at hb
    · cases hb; rfl
    · cases hb) (fun b h => absurd h (by omega))]
  rfl
theorem prefix_cat (a b : ByteArray) : Lib.hasPrefix (a ++ b).data.toList a.data.toList = true := by
  unfold Lib.hasPrefix
  rw [List.isPrefixOf_iff_prefix]
  refine ⟨b.data.toList, ?_⟩
  rw [ByteArray.data_append, Array.toList_append]
theorem extract_cat (a b : ByteArray) : (a ++ b).extract a.size (a ++ b).size = b := by
  rw [ByteArray.size_append]
  exact ByteArray.extract_append_eq_right rfl rfl

end Go.Proofs.YtgjfhamophknfaaDoor
