/- The examples of the statement OctetKnown. -/
import Derived.Test.YtgjfhamophknfaaDoorC2
namespace Go.Proofs.YtgjfhamophknfaaDoor
open Go.RowKit

/-- 65536 times the sign a. -/
def rb (n : Nat) : ByteArray := ⟨(List.replicate n (97 : UInt8)).toArray⟩
def Full (F : ByteArray) : Prop := F = rb 65536
theorem rb_size (n : Nat) : (rb n).size = n := by simp [rb, ByteArray.size]
theorem Full.size {F : ByteArray} (h : Full F) : F.size = 65536 := by rw [show F = rb 65536 from h, rb_size]
theorem rb_get (n i : Nat) (hi : i < n) : (asc (rb n).data.toList).getD i 0 = 97 := by
  unfold rb asc
  rw [List.getD_eq_getElem?_getD, List.getElem?_map]
  simp [hi]
theorem Full.get {F : ByteArray} (h : Full F) (i : Nat) (hi : i < 65536) : (asc F.data.toList).getD i 0 = 97 := by
  rw [show F = rb 65536 from h]; exact rb_get _ i hi
theorem Full.prn {F : ByteArray} (h : Full F) : prn (asc F.data.toList) = true := by
  refine prn_yes _ fun k hk => ?_
  rw [asc_length, h.size] at hk
  rw [h.get k hk]; omega
theorem cat_none (F : ByteArray) : F ++ zb 0 = F := ByteArray.append_empty
theorem repeatL_one (c : UInt8) (z : Nat) : Lib.repeatL [c] z = List.replicate z c := by
  induction z with
  | zero => rfl
  | succ z ih => rw [Lib.repeatL, ih, List.replicate_succ]; rfl
theorem full_any (n : Nat) (hn : n ≤ 100000) (w : World) :
    Calls Tryd.prog 28 #[.string ⟨#[97]⟩, .int .i64 n] w fun e w' => e = .returned (.string (rb n)) ∧ Below w.heap.size w w' := by
  refine (Tryd.strings_Repeat ⟨#[97]⟩ n w (by omega) (by show 1 * n ≤ _; omega)).mono ?_
  rintro e w' ⟨rfl, hB⟩
  refine ⟨?_, hB⟩
  unfold rb
  rw [show (⟨#[97]⟩ : ByteArray).data.toList = [97] from rfl, repeatL_one]
theorem kx0 (F : ByteArray) (hF : Full F) (w : World) :
    Calls Tryd.prog 29 #[.string F, .int .i64 65535] w fun e w' => e = .returned (.tuple #[.int .i64 97, .int .i64 0]) ∧ Below w.heap.size w w' := by
  have hs := hF.size
  have h := u8_any F 65535 w
  rw [show partE F 65535 1 = 0 from partE_in F 65535 1 (by omega) (by omega)] at h
  have hn : numS F 65535 1 = 97 := by
    unfold numS
    rw [show partE F 65535 ((1 : Nat) : Int) = 0 from partE_in F 65535 1 (by omega) (by omega), if_pos rfl, show partS F 65535 ((1 : Nat) : Int) = _ from partS_in F 65535 1 (by omega) (by omega)]
    simp only [num]
    rw [asc_part F 65535 1 0 (by omega), hF.get 65535 (by omega)]
  rw [hn] at h
  exact h
theorem kx1 (F : ByteArray) (hF : Full F) (w : World) :
    Calls Tryd.prog 29 #[.string F, .int .i64 65536] w fun e w' => e = .returned (.tuple #[.int .i64 0, .int .i64 70]) ∧ Below w.heap.size w w' := by
  have hs := hF.size
  have h := u8_any F 65536 w
  have e1 : partE F 65536 ((1 : Nat) : Int) = 70 := by unfold partE; rw [if_neg (by omega), if_neg (by omega), if_pos (by omega)]
  have hn : numS F 65536 1 = 0 := by unfold numS; rw [e1, if_neg (by decide)]
  rw [hn, show partE F 65536 1 = 70 from e1] at h
  exact h
theorem kx2 (G : ByteArray) (hG : G.size = 65537) (w : World) :
    Calls Tryd.prog 29 #[.string G, .int .i64 0] w fun e w' => e = .returned (.tuple #[.int .i64 0, .int .i64 3]) ∧ Below w.heap.size w w' := by
  have h := u8_any G 0 w
  have e1 : ∀ a n : Int, partE G a n = 3 := fun a n => by unfold partE; rw [if_pos (by omega)]
  have hn : numS G 0 1 = 0 := by unfold numS; rw [e1, if_neg (by decide)]
  rw [hn, e1] at h
  exact h
theorem kx3 (G : ByteArray) (hG : G.size = 65537) (w : World) :
    Calls Tryd.prog 12 #[.string G, .int .i64 (-1)] w fun e w' => e = .returned (.tuple #[.int .i64 0, .int .i64 3]) ∧ Below w.heap.size w w' := by
  have h := u32_any G (-1) w
  have e1 : ∀ a n : Int, partE G a n = 3 := fun a n => by unfold partE; rw [if_pos (by omega)]
  have hn : numS G (-1) 4 = 0 := by unfold numS; rw [e1, if_neg (by decide)]
  rw [hn, e1] at h
  exact h
theorem kx4 (w : World) :
    Calls Tryd.prog 12 #[.string ⟨#[]⟩, .int .i64 (-9223372036854775808)] w fun e w' => e = .returned (.tuple #[.int .i64 0, .int .i64 2]) ∧ Below w.heap.size w w' := by
  have h := u32_any ⟨#[]⟩ (-9223372036854775808) w
  rw [show ((numS ⟨#[]⟩ (-9223372036854775808) 4 : Nat) : Int) = 0 by decide +kernel, show partE ⟨#[]⟩ (-9223372036854775808) 4 = 2 by decide +kernel] at h
  exact h
theorem kx5 (w : World) :
    Calls Tryd.prog 31 #[.string ⟨#[]⟩, .int .i64 9223372036854775807] w fun e w' => e = .returned (.tuple #[.int .i64 0, .int .i64 70]) ∧ Below w.heap.size w w' := by
  have h := s32_any ⟨#[]⟩ 9223372036854775807 w
  rw [show sgn (numS ⟨#[]⟩ 9223372036854775807 4) = 0 by decide +kernel, show partE ⟨#[]⟩ 9223372036854775807 4 = 70 by decide +kernel] at h
  exact h
theorem kx6 (w : World) :
    Calls Tryd.prog 31 #[.string ⟨#[128, 0, 0, 0]⟩, .int .i64 0] w fun e w' => e = .returned (.tuple #[.int .i64 (-2147483648), .int .i64 0]) ∧ Below w.heap.size w w' := by
  have h := s32_any ⟨#[128, 0, 0, 0]⟩ 0 w
  rw [show sgn (numS ⟨#[128, 0, 0, 0]⟩ 0 4) = (-2147483648) by decide +kernel, show partE ⟨#[128, 0, 0, 0]⟩ 0 4 = 0 by decide +kernel] at h
  exact h
theorem kx7 (w : World) :
    Calls Tryd.prog 31 #[.string ⟨#[127, 255, 255, 255]⟩, .int .i64 0] w fun e w' => e = .returned (.tuple #[.int .i64 2147483647, .int .i64 0]) ∧ Below w.heap.size w w' := by
  have h := s32_any ⟨#[127, 255, 255, 255]⟩ 0 w
  rw [show sgn (numS ⟨#[127, 255, 255, 255]⟩ 0 4) = 2147483647 by decide +kernel, show partE ⟨#[127, 255, 255, 255]⟩ 0 4 = 0 by decide +kernel] at h
  exact h
theorem kx8 (w : World) :
    Calls Tryd.prog 29 #[.string ⟨#[255]⟩, .int .i64 0] w fun e w' => e = .returned (.tuple #[.int .i64 255, .int .i64 0]) ∧ Below w.heap.size w w' := by
  have h := u8_any ⟨#[255]⟩ 0 w
  rw [show ((numS ⟨#[255]⟩ 0 1 : Nat) : Int) = 255 by decide +kernel, show partE ⟨#[255]⟩ 0 1 = 0 by decide +kernel] at h
  exact h
theorem kx9 (w : World) :
    Calls Tryd.prog 8 #[.string ⟨#[]⟩, .int .i64 0, .int .i64 0] w fun e w' => e = .returned (.tuple #[.string ⟨#[]⟩, .int .i64 0]) ∧ Below w.heap.size w w' := by
  have h := part_any ⟨#[]⟩ 0 0 w
  rw [show partS ⟨#[]⟩ 0 0 = ⟨#[]⟩ by decide +kernel, show partE ⟨#[]⟩ 0 0 = 0 by decide +kernel] at h
  exact h.mono fun e w1 hh => ⟨hh.1, hh.2 ▸ Below.refl _ _⟩
theorem kx10 (w : World) :
    Calls Tryd.prog 8 #[.string ⟨#[97]⟩, .int .i64 1, .int .i64 1] w fun e w' => e = .returned (.tuple #[.string ⟨#[]⟩, .int .i64 70]) ∧ Below w.heap.size w w' := by
  have h := part_any ⟨#[97]⟩ 1 1 w
  rw [show partS ⟨#[97]⟩ 1 1 = ⟨#[]⟩ by decide +kernel, show partE ⟨#[97]⟩ 1 1 = 70 by decide +kernel] at h
  exact h.mono fun e w1 hh => ⟨hh.1, hh.2 ▸ Below.refl _ _⟩
theorem kx11 (w : World) :
    Calls Tryd.prog 8 #[.string ⟨#[97]⟩, .int .i64 1, .int .i64 0] w fun e w' => e = .returned (.tuple #[.string ⟨#[]⟩, .int .i64 0]) ∧ Below w.heap.size w w' := by
  have h := part_any ⟨#[97]⟩ 1 0 w
  rw [show partS ⟨#[97]⟩ 1 0 = ⟨#[]⟩ by decide +kernel, show partE ⟨#[97]⟩ 1 0 = 0 by decide +kernel] at h
  exact h.mono fun e w1 hh => ⟨hh.1, hh.2 ▸ Below.refl _ _⟩
theorem kx12 (w : World) :
    Calls Tryd.prog 8 #[.string ⟨#[97]⟩, .int .i64 2, .int .i64 0] w fun e w' => e = .returned (.tuple #[.string ⟨#[]⟩, .int .i64 70]) ∧ Below w.heap.size w w' := by
  have h := part_any ⟨#[97]⟩ 2 0 w
  rw [show partS ⟨#[97]⟩ 2 0 = ⟨#[]⟩ by decide +kernel, show partE ⟨#[97]⟩ 2 0 = 70 by decide +kernel] at h
  exact h.mono fun e w1 hh => ⟨hh.1, hh.2 ▸ Below.refl _ _⟩
theorem kx13 (w : World) :
    Calls Tryd.prog 8 #[.string ⟨#[97]⟩, .int .i64 0, .int .i64 (-1)] w fun e w' => e = .returned (.tuple #[.string ⟨#[]⟩, .int .i64 2]) ∧ Below w.heap.size w w' := by
  have h := part_any ⟨#[97]⟩ 0 (-1) w
  rw [show partS ⟨#[97]⟩ 0 (-1) = ⟨#[]⟩ by decide +kernel, show partE ⟨#[97]⟩ 0 (-1) = 2 by decide +kernel] at h
  exact h.mono fun e w1 hh => ⟨hh.1, hh.2 ▸ Below.refl _ _⟩
theorem kx14 (w : World) :
    Calls Tryd.prog 8 #[.string ⟨#[97]⟩, .int .i64 1, .int .i64 9223372036854775807] w fun e w' => e = .returned (.tuple #[.string ⟨#[]⟩, .int .i64 70]) ∧ Below w.heap.size w w' := by
  have h := part_any ⟨#[97]⟩ 1 9223372036854775807 w
  rw [show partS ⟨#[97]⟩ 1 9223372036854775807 = ⟨#[]⟩ by decide +kernel, show partE ⟨#[97]⟩ 1 9223372036854775807 = 70 by decide +kernel] at h
  exact h.mono fun e w1 hh => ⟨hh.1, hh.2 ▸ Below.refl _ _⟩
theorem kx15 (G : ByteArray) (hG : G.size = 65537) (w : World) :
    Calls Tryd.prog 8 #[.string G, .int .i64 (-1), .int .i64 0] w fun e w' => e = .returned (.tuple #[.string ⟨#[]⟩, .int .i64 3]) ∧ Below w.heap.size w w' := by
  have h := part_any G (-1) 0 w
  rw [show partS G (-1) 0 = ⟨#[]⟩ by unfold partS; rw [if_neg (by omega)], show partE G (-1) 0 = 3 by unfold partE; rw [if_pos (by omega)]] at h
  exact h.mono fun e w1 hh => ⟨hh.1, hh.2 ▸ Below.refl _ _⟩
theorem kx16 (F : ByteArray) (hF : Full F) (w : World) :
    Calls Tryd.prog 8 #[.string F, .int .i64 0, .int .i64 65536] w fun e w' => e = .returned (.tuple #[.string F, .int .i64 0]) ∧ Below w.heap.size w w' := by
  have hs := hF.size
  have h := part_any F 0 65536 w
  rw [show partE F 0 65536 = 0 from partE_in F 0 65536 (by omega) (by omega), show partS F 0 65536 = F.extract 0 (0 + 65536) from partS_in F 0 65536 (by omega) (by omega), show 0 + 65536 = F.size by omega, ByteArray.extract_zero_size] at h
  exact h.mono fun e w1 hh => ⟨hh.1, hh.2 ▸ Below.refl _ _⟩
theorem kx17 (w : World) :
    Calls Tryd.prog 33 #[.string ⟨#[0, 0]⟩, .int .i64 0, .int .i64 2] w fun e w' => e = .returned (.tuple #[.string ⟨#[]⟩, .int .i64 0]) ∧ Below w.heap.size w w' := by
  have h := text_any ⟨#[0, 0]⟩ 0 2 w
  rw [show txS ⟨#[0, 0]⟩ 0 2 = ⟨#[]⟩ by decide +kernel, show txE ⟨#[0, 0]⟩ 0 2 = 0 by decide +kernel] at h
  exact h
theorem kx18 (w : World) :
    Calls Tryd.prog 33 #[.string ⟨#[]⟩, .int .i64 0, .int .i64 0] w fun e w' => e = .returned (.tuple #[.string ⟨#[]⟩, .int .i64 0]) ∧ Below w.heap.size w w' := by
  have h := text_any ⟨#[]⟩ 0 0 w
  rw [show txS ⟨#[]⟩ 0 0 = ⟨#[]⟩ by decide +kernel, show txE ⟨#[]⟩ 0 0 = 0 by decide +kernel] at h
  exact h
theorem kx19 (w : World) :
    Calls Tryd.prog 33 #[.string ⟨#[127]⟩, .int .i64 0, .int .i64 1] w fun e w' => e = .returned (.tuple #[.string ⟨#[]⟩, .int .i64 5]) ∧ Below w.heap.size w w' := by
  have h := text_any ⟨#[127]⟩ 0 1 w
  rw [show txS ⟨#[127]⟩ 0 1 = ⟨#[]⟩ by decide +kernel, show txE ⟨#[127]⟩ 0 1 = 5 by decide +kernel] at h
  exact h
theorem kx20 (w : World) :
    Calls Tryd.prog 33 #[.string ⟨#[32, 126]⟩, .int .i64 0, .int .i64 2] w fun e w' => e = .returned (.tuple #[.string ⟨#[32, 126]⟩, .int .i64 0]) ∧ Below w.heap.size w w' := by
  have h := text_any ⟨#[32, 126]⟩ 0 2 w
  rw [show txS ⟨#[32, 126]⟩ 0 2 = ⟨#[32, 126]⟩ by decide +kernel, show txE ⟨#[32, 126]⟩ 0 2 = 0 by decide +kernel] at h
  exact h
theorem kx21 (w : World) :
    Calls Tryd.prog 33 #[.string ⟨#[195, 169]⟩, .int .i64 0, .int .i64 2] w fun e w' => e = .returned (.tuple #[.string ⟨#[]⟩, .int .i64 5]) ∧ Below w.heap.size w w' := by
  have h := text_any ⟨#[195, 169]⟩ 0 2 w
  rw [show txS ⟨#[195, 169]⟩ 0 2 = ⟨#[]⟩ by decide +kernel, show txE ⟨#[195, 169]⟩ 0 2 = 5 by decide +kernel] at h
  exact h
theorem kx22 (w : World) :
    Calls Tryd.prog 33 #[.string ⟨#[0, 97]⟩, .int .i64 0, .int .i64 2] w fun e w' => e = .returned (.tuple #[.string ⟨#[]⟩, .int .i64 5]) ∧ Below w.heap.size w w' := by
  have h := text_any ⟨#[0, 97]⟩ 0 2 w
  rw [show txS ⟨#[0, 97]⟩ 0 2 = ⟨#[]⟩ by decide +kernel, show txE ⟨#[0, 97]⟩ 0 2 = 5 by decide +kernel] at h
  exact h
theorem kx23 (w : World) :
    Calls Tryd.prog 16 #[.int .i64 255] w fun e w' => e = .returned (.tuple #[.string ⟨#[255]⟩, .int .i64 0]) ∧ Below w.heap.size w w' := by
  have h := pu8_any 255 w
  rw [show puS 255 1 255 = ⟨#[255]⟩ by decide +kernel, show puE 255 255 = 0 by decide +kernel] at h
  exact h
theorem kx24 (w : World) :
    Calls Tryd.prog 16 #[.int .i64 (-1)] w fun e w' => e = .returned (.tuple #[.string ⟨#[]⟩, .int .i64 2]) ∧ Below w.heap.size w w' := by
  have h := pu8_any (-1) w
  rw [show puS 255 1 (-1) = ⟨#[]⟩ by decide +kernel, show puE 255 (-1) = 2 by decide +kernel] at h
  exact h
theorem kx25 (w : World) :
    Calls Tryd.prog 17 #[.int .i64 65536] w fun e w' => e = .returned (.tuple #[.string ⟨#[]⟩, .int .i64 2]) ∧ Below w.heap.size w w' := by
  have h := pu16_any 65536 w
  rw [show puS 65535 2 65536 = ⟨#[]⟩ by decide +kernel, show puE 65535 65536 = 2 by decide +kernel] at h
  exact h
theorem kx26 (w : World) :
    Calls Tryd.prog 18 #[.int .i64 4294967295] w fun e w' => e = .returned (.tuple #[.string ⟨#[255, 255, 255, 255]⟩, .int .i64 0]) ∧ Below w.heap.size w w' := by
  have h := pu32_any 4294967295 w
  rw [show puS 4294967295 4 4294967295 = ⟨#[255, 255, 255, 255]⟩ by decide +kernel, show puE 4294967295 4294967295 = 0 by decide +kernel] at h
  exact h
theorem kx27 (w : World) :
    Calls Tryd.prog 18 #[.int .i64 4294967296] w fun e w' => e = .returned (.tuple #[.string ⟨#[]⟩, .int .i64 2]) ∧ Below w.heap.size w w' := by
  have h := pu32_any 4294967296 w
  rw [show puS 4294967295 4 4294967296 = ⟨#[]⟩ by decide +kernel, show puE 4294967295 4294967296 = 2 by decide +kernel] at h
  exact h
theorem kx28 (w : World) :
    Calls Tryd.prog 19 #[.int .i64 (-2147483648)] w fun e w' => e = .returned (.tuple #[.string ⟨#[128, 0, 0, 0]⟩, .int .i64 0]) ∧ Below w.heap.size w w' := by
  have h := ps32_any (-2147483648) w
  rw [show psS (-2147483648) = ⟨#[128, 0, 0, 0]⟩ by decide +kernel, show psE (-2147483648) = 0 by decide +kernel] at h
  exact h
theorem kx29 (w : World) :
    Calls Tryd.prog 19 #[.int .i64 2147483648] w fun e w' => e = .returned (.tuple #[.string ⟨#[]⟩, .int .i64 2]) ∧ Below w.heap.size w w' := by
  have h := ps32_any 2147483648 w
  rw [show psS 2147483648 = ⟨#[]⟩ by decide +kernel, show psE 2147483648 = 2 by decide +kernel] at h
  exact h
theorem kx30 (w : World) :
    Calls Tryd.prog 19 #[.int .i64 (-2147483649)] w fun e w' => e = .returned (.tuple #[.string ⟨#[]⟩, .int .i64 2]) ∧ Below w.heap.size w w' := by
  have h := ps32_any (-2147483649) w
  rw [show psS (-2147483649) = ⟨#[]⟩ by decide +kernel, show psE (-2147483649) = 2 by decide +kernel] at h
  exact h
theorem kx31 (w : World) :
    Calls Tryd.prog 18 #[.int .i64 0] w fun e w' => e = .returned (.tuple #[.string ⟨#[0, 0, 0, 0]⟩, .int .i64 0]) ∧ Below w.heap.size w w' := by
  have h := pu32_any 0 w
  rw [show puS 4294967295 4 0 = ⟨#[0, 0, 0, 0]⟩ by decide +kernel, show puE 4294967295 0 = 0 by decide +kernel] at h
  exact h
theorem kx32 (w : World) :
    Calls Tryd.prog 25 #[.string ⟨#[10]⟩, .int .i64 (-1)] w fun e w' => e = .returned (.tuple #[.string ⟨#[]⟩, .int .i64 2]) ∧ Below w.heap.size w w' := by
  have h := ptext_any ⟨#[10]⟩ (-1) (by decide) w
  rw [show ptS ⟨#[10]⟩ (-1) = ⟨#[]⟩ by decide +kernel, show ptE ⟨#[10]⟩ (-1) = 2 by decide +kernel] at h
  exact h
theorem kx33 (w : World) :
    Calls Tryd.prog 25 #[.string ⟨#[]⟩, .int .i64 65537] w fun e w' => e = .returned (.tuple #[.string ⟨#[]⟩, .int .i64 2]) ∧ Below w.heap.size w w' := by
  have h := ptext_any ⟨#[]⟩ 65537 (by decide) w
  rw [show ptS ⟨#[]⟩ 65537 = ⟨#[]⟩ by decide +kernel, show ptE ⟨#[]⟩ 65537 = 2 by decide +kernel] at h
  exact h
theorem kx34 (w : World) :
    Calls Tryd.prog 25 #[.string ⟨#[10, 97, 98]⟩, .int .i64 1] w fun e w' => e = .returned (.tuple #[.string ⟨#[]⟩, .int .i64 5]) ∧ Below w.heap.size w w' := by
  have h := ptext_any ⟨#[10, 97, 98]⟩ 1 (by decide) w
  rw [show ptS ⟨#[10, 97, 98]⟩ 1 = ⟨#[]⟩ by decide +kernel, show ptE ⟨#[10, 97, 98]⟩ 1 = 5 by decide +kernel] at h
  exact h
theorem kx35 (w : World) :
    Calls Tryd.prog 25 #[.string ⟨#[]⟩, .int .i64 0] w fun e w' => e = .returned (.tuple #[.string ⟨#[]⟩, .int .i64 0]) ∧ Below w.heap.size w w' := by
  have h := ptext_any ⟨#[]⟩ 0 (by decide) w
  rw [show ptS ⟨#[]⟩ 0 = ⟨#[]⟩ by decide +kernel, show ptE ⟨#[]⟩ 0 = 0 by decide +kernel] at h
  exact h
theorem kx36 (F : ByteArray) (hF : Full F) (w : World) :
    Calls Tryd.prog 25 #[.string F, .int .i64 65536] w fun e w' => e = .returned (.tuple #[.string F, .int .i64 0]) ∧ Below w.heap.size w w' := by
  have hs := hF.size
  have h := ptext_any F 65536 (by omega) w
  have e1 : ptE F 65536 = 0 := by unfold ptE; rw [if_neg (by omega), if_neg (by rw [hF.prn]; decide), if_neg (by omega)]
  have e2 : ptS F 65536 = F := by
    unfold ptS; rw [if_neg (by omega), if_neg (by rw [hF.prn]; decide), if_neg (by omega), show ((65536 : Int) - F.size).toNat = 0 by omega]
    exact cat_none F
  rw [e1, e2] at h
  exact h
theorem kx37 (G : ByteArray) (hG : G.size = 65537) (w : World) :
    Calls Tryd.prog 13 #[.string G, .int .i64 0] w fun e w' => e = .returned (.tuple #[.string ⟨#[]⟩, .int .i64 3]) ∧ Below w.heap.size w w' := by
  have h := pad_any G 0 w
  rw [show padS G 0 = ⟨#[]⟩ by unfold padS; rw [if_pos (by omega)], show padE G 0 = 3 by unfold padE; rw [if_pos (by omega)]] at h
  exact h
theorem kx38 (F : ByteArray) (hF : Full F) (w : World) :
    Calls Tryd.prog 13 #[.string F, .int .i64 0] w fun e w' => e = .returned (.tuple #[.string ⟨#[]⟩, .int .i64 2]) ∧ Below w.heap.size w w' := by
  have hs := hF.size
  have h := pad_any F 0 w
  rw [show padS F 0 = ⟨#[]⟩ by unfold padS; rw [if_neg (by omega), if_pos (by omega)], show padE F 0 = 2 by unfold padE; rw [if_neg (by omega), if_pos (by omega)]] at h
  exact h
theorem kx39 (w : World) :
    Calls Tryd.prog 13 #[.string ⟨#[]⟩, .int .i64 65] w fun e w' => e = .returned (.tuple #[.string ⟨#[]⟩, .int .i64 2]) ∧ Below w.heap.size w w' := by
  have h := pad_any ⟨#[]⟩ 65 w
  rw [show padS ⟨#[]⟩ 65 = ⟨#[]⟩ by decide +kernel, show padE ⟨#[]⟩ 65 = 2 by decide +kernel] at h
  exact h
theorem kx40 (F : ByteArray) (hF : Full F) (w : World) :
    Calls Tryd.prog 13 #[.string F, .int .i64 64] w fun e w' => e = .returned (.tuple #[.string F, .int .i64 0]) ∧ Below w.heap.size w w' := by
  have hs := hF.size
  have h := pad_any F 64 w
  have hz : padZ F.size (64 : Int).toNat = 0 := by rw [hs]; decide
  rw [show padS F 64 = F by unfold padS; rw [if_neg (by omega), if_neg (by omega), if_neg (by omega), hz]; exact cat_none F, show padE F 64 = 0 by unfold padE; rw [if_neg (by omega), if_neg (by omega), if_neg (by omega)]] at h
  exact h
theorem kx41 (F : ByteArray) (hF : Full F) (w : World) :
    Calls Tryd.prog 13 #[.string F, .int .i64 63] w fun e w' => e = .returned (.tuple #[.string ⟨#[]⟩, .int .i64 3]) ∧ Below w.heap.size w w' := by
  have hs := hF.size
  have h := pad_any F 63 w
  have hz : padZ F.size (63 : Int).toNat = 47 := by rw [hs]; decide
  rw [show padS F 63 = ⟨#[]⟩ by unfold padS; rw [if_neg (by omega), if_neg (by omega), if_pos (by omega)], show padE F 63 = 3 by unfold padE; rw [if_neg (by omega), if_neg (by omega), if_pos (by omega)]] at h
  exact h
theorem kx42 (w : World) :
    Calls Tryd.prog 13 #[.string ⟨#[]⟩, .int .i64 64] w fun e w' => e = .returned (.tuple #[.string ⟨#[]⟩, .int .i64 0]) ∧ Below w.heap.size w w' := by
  have h := pad_any ⟨#[]⟩ 64 w
  rw [show padS ⟨#[]⟩ 64 = ⟨#[]⟩ by decide +kernel, show padE ⟨#[]⟩ 64 = 0 by decide +kernel] at h
  exact h
theorem kx43 (H K : ByteArray) (hH : H.size = 65533) (hK : H ++ zb 3 = K) (w : World) :
    Calls Tryd.prog 13 #[.string H, .int .i64 4] w fun e w' => e = .returned (.tuple #[.string K, .int .i64 0]) ∧ Below w.heap.size w w' := by
  have h := pad_any H 4 w
  have hz : padZ H.size (4 : Int).toNat = 3 := by rw [hH]; decide
  rw [show padS H 4 = K by unfold padS; rw [if_neg (by omega), if_neg (by omega), if_neg (by omega), hz]; exact hK, show padE H 4 = 0 by unfold padE; rw [if_neg (by omega), if_neg (by omega), if_neg (by omega)]] at h
  exact h
end Go.Proofs.YtgjfhamophknfaaDoor
