/- Walks: the reference's PutU8, PutU16, PutU32, PutS32. -/
import Derived.Test.YtgjfhamophknfaaDoorB10
namespace Go.Proofs.YtgjfhamophknfaaDoor
open Go.RowKit

/-- A number as n octets, if it lies between 0 and m. -/
def puS (m : Int) (n : Nat) (x : Int) : ByteArray := if x < 0 ∨ m < x then ⟨#[]⟩ else txtN (octs x.toNat n)
def puE (m : Int) (x : Int) : Int := if x < 0 ∨ m < x then 2 else 0
def psS (x : Int) : ByteArray := if x < -2147483648 ∨ 2147483647 < x then ⟨#[]⟩ else txtN (octs (if x < 0 then x + 4294967296 else x).toNat 4)
def psE (x : Int) : Int := if x < -2147483648 ∨ 2147483647 < x then 2 else 0

set_option maxRecDepth 100000 in
set_option maxHeartbeats 1000000 in
theorem pu8I_any (x : Int) (w : World) :
    Calls Tryd.prog 20 #[.int .i64 x] w fun e w' => e = .returned (.tuple #[.string (puS 255 1 x), .int .i64 (puE 255 x)]) ∧ Below w.heap.size w w' := by
  by_cases h1 : x < 0
  · rw [show puS 255 1 x = ⟨#[]⟩ by unfold puS; rw [if_pos (Or.inl h1)], show puE 255 x = 2 by unfold puE; rw [if_pos (Or.inl h1)]]
    go_enter Tryd.func20, Tryd.ntmps20
    go_wp2_with fail
    go_ret2
    exact ⟨rfl, Below.refl _ _⟩
  by_cases h2 : 255 < x
  · rw [show puS 255 1 x = ⟨#[]⟩ by unfold puS; rw [if_pos (Or.inr h2)], show puE 255 x = 2 by unfold puE; rw [if_pos (Or.inr h2)]]
    go_enter Tryd.func20, Tryd.ntmps20
    go_wp2_with fail
    go_ret2
    exact ⟨rfl, Below.refl _ _⟩
  rw [show puS 255 1 x = txtN (octs x.toNat 1) by unfold puS; rw [if_neg (by omega)], show puE 255 x = 0 by unfold puE; rw [if_neg (by omega)]]
  obtain ⟨m, rfl⟩ : ∃ m : Nat, x = m := ⟨x.toNat, by omega⟩
  rw [Int.toNat_natCast]
  have hm : m ≤ 255 := by omega
  have ho := octets_any m 1 (by omega) (by omega)
  generalize txtN (octs m 1) = q at *
  have HO := Lib.hid ho
  clear ho h1 h2
  go_enter Tryd.func20, Tryd.ntmps20
  go_wp2_with fail
  refine (HO.out _).mono ?_
  rintro e w1 ⟨rfl, hb⟩
  have HB := Lib.hid hb
  clear hb
  go_wp2_with fail
  go_ret2
  exact ⟨rfl, HB.out⟩

set_option maxRecDepth 100000 in
set_option maxHeartbeats 1000000 in
theorem pu16I_any (x : Int) (w : World) :
    Calls Tryd.prog 21 #[.int .i64 x] w fun e w' => e = .returned (.tuple #[.string (puS 65535 2 x), .int .i64 (puE 65535 x)]) ∧ Below w.heap.size w w' := by
  by_cases h1 : x < 0
  · rw [show puS 65535 2 x = ⟨#[]⟩ by unfold puS; rw [if_pos (Or.inl h1)], show puE 65535 x = 2 by unfold puE; rw [if_pos (Or.inl h1)]]
    go_enter Tryd.func21, Tryd.ntmps21
    go_wp2_with fail
    go_ret2
    exact ⟨rfl, Below.refl _ _⟩
  by_cases h2 : 65535 < x
  · rw [show puS 65535 2 x = ⟨#[]⟩ by unfold puS; rw [if_pos (Or.inr h2)], show puE 65535 x = 2 by unfold puE; rw [if_pos (Or.inr h2)]]
    go_enter Tryd.func21, Tryd.ntmps21
    go_wp2_with fail
    go_ret2
    exact ⟨rfl, Below.refl _ _⟩
  rw [show puS 65535 2 x = txtN (octs x.toNat 2) by unfold puS; rw [if_neg (by omega)], show puE 65535 x = 0 by unfold puE; rw [if_neg (by omega)]]
  obtain ⟨m, rfl⟩ : ∃ m : Nat, x = m := ⟨x.toNat, by omega⟩
  rw [Int.toNat_natCast]
  have hm : m ≤ 65535 := by omega
  have ho := octets_any m 2 (by omega) (by omega)
  generalize txtN (octs m 2) = q at *
  have HO := Lib.hid ho
  clear ho h1 h2
  go_enter Tryd.func21, Tryd.ntmps21
  go_wp2_with fail
  refine (HO.out _).mono ?_
  rintro e w1 ⟨rfl, hb⟩
  have HB := Lib.hid hb
  clear hb
  go_wp2_with fail
  go_ret2
  exact ⟨rfl, HB.out⟩

set_option maxRecDepth 100000 in
set_option maxHeartbeats 1000000 in
theorem pu32I_any (x : Int) (w : World) :
    Calls Tryd.prog 22 #[.int .i64 x] w fun e w' => e = .returned (.tuple #[.string (puS 4294967295 4 x), .int .i64 (puE 4294967295 x)]) ∧ Below w.heap.size w w' := by
  by_cases h1 : x < 0
  · rw [show puS 4294967295 4 x = ⟨#[]⟩ by unfold puS; rw [if_pos (Or.inl h1)], show puE 4294967295 x = 2 by unfold puE; rw [if_pos (Or.inl h1)]]
    go_enter Tryd.func22, Tryd.ntmps22
    go_wp2_with fail
    go_ret2
    exact ⟨rfl, Below.refl _ _⟩
  by_cases h2 : 4294967295 < x
  · rw [show puS 4294967295 4 x = ⟨#[]⟩ by unfold puS; rw [if_pos (Or.inr h2)], show puE 4294967295 x = 2 by unfold puE; rw [if_pos (Or.inr h2)]]
    go_enter Tryd.func22, Tryd.ntmps22
    go_wp2_with fail
    go_ret2
    exact ⟨rfl, Below.refl _ _⟩
  rw [show puS 4294967295 4 x = txtN (octs x.toNat 4) by unfold puS; rw [if_neg (by omega)], show puE 4294967295 x = 0 by unfold puE; rw [if_neg (by omega)]]
  obtain ⟨m, rfl⟩ : ∃ m : Nat, x = m := ⟨x.toNat, by omega⟩
  rw [Int.toNat_natCast]
  have hm : m ≤ 4294967295 := by omega
  have ho := octets_any m 4 (by omega) (by omega)
  generalize txtN (octs m 4) = q at *
  have HO := Lib.hid ho
  clear ho h1 h2
  go_enter Tryd.func22, Tryd.ntmps22
  go_wp2_with fail
  refine (HO.out _).mono ?_
  rintro e w1 ⟨rfl, hb⟩
  have HB := Lib.hid hb
  clear hb
  go_wp2_with fail
  go_ret2
  exact ⟨rfl, HB.out⟩

set_option maxRecDepth 100000 in
set_option maxHeartbeats 1000000 in
theorem ps32I_any (x : Int) (w : World) :
    Calls Tryd.prog 23 #[.int .i64 x] w fun e w' => e = .returned (.tuple #[.string (psS x), .int .i64 (psE x)]) ∧ Below w.heap.size w w' := by
  by_cases h1 : x < -2147483648
  · rw [show psS x = ⟨#[]⟩ by unfold psS; rw [if_pos (Or.inl h1)], show psE x = 2 by unfold psE; rw [if_pos (Or.inl h1)]]
    go_enter Tryd.func23, Tryd.ntmps23
    go_wp2_with fail
    go_ret2
    exact ⟨rfl, Below.refl _ _⟩
  by_cases h2 : 2147483647 < x
  · rw [show psS x = ⟨#[]⟩ by unfold psS; rw [if_pos (Or.inr h2)], show psE x = 2 by unfold psE; rw [if_pos (Or.inr h2)]]
    go_enter Tryd.func23, Tryd.ntmps23
    go_wp2_with fail
    go_ret2
    exact ⟨rfl, Below.refl _ _⟩
  rw [show psS x = txtN (octs (if x < 0 then x + 4294967296 else x).toNat 4) by unfold psS; rw [if_neg (by omega)], show psE x = 0 by unfold psE; rw [if_neg (by omega)]]
  have hx1 : -2147483648 ≤ x := by omega
  have hx2 : x ≤ 2147483647 := by omega
  clear h1 h2
  by_cases h3 : x < 0
  · obtain ⟨m, hm⟩ : ∃ m : Nat, x + 4294967296 = m := ⟨(x + 4294967296).toNat, by omega⟩
    rw [if_pos h3, hm, Int.toNat_natCast]
    have ho := octets_any m 4 (by omega) (by omega)
    generalize txtN (octs m 4) = q at *
    have HO := Lib.hid ho
    have HM := Lib.hid hm
    clear ho hm
    go_enter Tryd.func23, Tryd.ntmps23
    go_wp2_with fail
    rw [HM.out]
    refine (HO.out _).mono ?_
    rintro e w1 ⟨rfl, hb⟩
    have HB := Lib.hid hb
    clear hb
    go_wp2_with fail
    go_ret2
    exact ⟨rfl, HB.out⟩
  · obtain ⟨m, rfl⟩ : ∃ m : Nat, x = m := ⟨x.toNat, by omega⟩
    rw [if_neg h3, Int.toNat_natCast]
    have ho := octets_any m 4 (by omega) (by omega)
    generalize txtN (octs m 4) = q at *
    have HO := Lib.hid ho
    clear ho h3
    go_enter Tryd.func23, Tryd.ntmps23
    go_wp2_with fail
    refine (HO.out _).mono ?_
    rintro e w1 ⟨rfl, hb⟩
    have HB := Lib.hid hb
    clear hb
    go_wp2_with fail
    go_ret2
    exact ⟨rfl, HB.out⟩
end Go.Proofs.YtgjfhamophknfaaDoor
