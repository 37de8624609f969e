/- Walks: the small functions of the reference. -/
import Derived.Test.YtfhddcjepgjfnaaDoorA2
namespace Go.Proofs.YtfhddcjepgjfnaaDoor
open Go.RowKit Md

theorem i64_sub {a b : Nat} (h : b ≤ a) (ha : a < 9223372036854775808) : IntKind.i64.wrap ((a : Int) - (b : Int)) = ((a - b : Nat) : Int) := by
  rw [← Int.ofNat_sub h]; exact i64_nat (by omega)

set_option maxHeartbeats 400000 in
theorem not_any (a : Nat) (ha : a < 4294967296) (w : World) :
    Calls Tryd.prog 80 #[.int .i64 a] w fun e w' => e = .returned (.int .i64 (4294967295 - a : Nat)) ∧ w = w' := by
  go_enter Tryd.func80, Tryd.ntmps80
  go_wp2
  go_ret
  exact ⟨ret_eq (int_eq (by omega)), rfl⟩

theorem wrap64_nat {a : Nat} (h : a < 9223372036854775808) : wrap64 (a : Int) = a := IntWalk.wrap64_in _ ⟨by omega, by omega⟩
theorem shl_eq (a b : Nat) (ha : a < 4294967296) (hb : b < 32) : wrap64 ((a : Int) * 2 ^ b) = ((a * 2 ^ b : Nat) : Int) := by
  have h1 : (2 : Nat) ^ b ≤ 2 ^ 31 := Nat.pow_le_pow_right (by decide) (by omega)
  have h2 : a * 2 ^ b ≤ 4294967295 * 2 ^ 31 := Nat.mul_le_mul (by omega) h1
  rw [show ((a : Int) * 2 ^ b) = ((a * 2 ^ b : Nat) : Int) by simp]
  exact wrap64_nat (by omega)
set_option maxHeartbeats 400000 in
theorem rotI_any (a b : Nat) (ha : a < 4294967296) (hb : b < 32) (w : World) :
    Calls Tryd.prog 68 #[.int .i64 a, .int .i64 b] w fun e w' => e = .returned (.int .i64 (rot a b : Nat)) ∧ Below w.heap.size w w' := by
  have h := rot_add a b (by omega) ha
  have hl := rot_lt a b ha
  go_enter Tryd.func68, Tryd.ntmps68
  go_wp2
  go_quiet (fail)
  go_wp2_with fail
  go_ret
  refine ⟨ret_eq (int_eq ?_), below_drewN (Below.refl _ _) _⟩
  have h3 : wrap64 ((a : Int) * 2 ^ b) = ((a * 2 ^ b : Nat) : Int) := shl_eq a b ha hb
  rw [h3, Int.tmod_eq_emod_of_nonneg (Int.natCast_nonneg _), show (((a * 2 ^ b : Nat) : Int) % 4294967296 + (a : Int) / 2 ^ (32 - b)) = ((a * 2 ^ b % 4294967296 + a / 2 ^ (32 - b) : Nat) : Int) by simp, ← h]
  exact wrap64_nat (by omega)

set_option maxHeartbeats 800000 in
theorem stepI_any (i b c d : Nat) (hi : i < 64) (hb : b < 4294967296) (hc : c < 4294967296) (hd : d < 4294967296) (w : World) :
    Calls Tryd.prog 67 #[.int .i64 i, .int .i64 b, .int .i64 c, .int .i64 d] w fun e w' => e = .returned (.tuple #[.int .i64 (mix (i / 16) b c d : Nat), .int .i64 (wd (i / 16) i : Nat)]) ∧ w = w' := by
  have b1 := Nat.lt_of_le_of_lt (Nat.and_le_left (n := b) (m := c)) hb
  have b2 := Nat.lt_of_le_of_lt (Nat.and_le_right (n := 4294967295 - b) (m := d)) hd
  have d1 := Nat.lt_of_le_of_lt (Nat.and_le_left (n := d) (m := b)) hd
  have d2 := Nat.lt_of_le_of_lt (Nat.and_le_right (n := 4294967295 - d) (m := c)) hc
  have x1 := Nat.xor_lt_two_pow (n := 32) hb hc
  have o1 := Nat.or_lt_two_pow (n := 32) hb (show 4294967295 - d < _ by omega)
  by_cases h1 : i < 16
  · have e1 : i / 16 = 0 := by omega
    rw [e1]
    go_enter Tryd.func67, Tryd.ntmps67
    go_wp2_with fail
    refine (not_any b hb _).mono ?_
    rintro e w1 ⟨rfl, rfl⟩
    go_wp2_with fail
    go_ret2
    refine ⟨ret_eq ?_, rfl⟩
    rw [and64 (by omega) (by omega), and64 (by omega) (by omega), or64 (by omega) (by omega)]; rfl
  by_cases h2 : i < 32
  · have e1 : i / 16 = 1 := by omega
    rw [e1]
    go_enter Tryd.func67, Tryd.ntmps67
    go_wp2_with fail
    refine (not_any d hd _).mono ?_
    rintro e w1 ⟨rfl, rfl⟩
    go_wp2_with fail
    go_ret2
    refine ⟨ret_eq ?_, rfl⟩
    rw [and64 (by omega) (by omega), and64 (by omega) (by omega), or64 (by omega) (by omega)]
    simp [mix, wd]
  by_cases h3 : i < 48
  · have e1 : i / 16 = 2 := by omega
    rw [e1]
    go_enter Tryd.func67, Tryd.ntmps67
    go_wp2_with fail
    go_ret2
    refine ⟨ret_eq ?_, rfl⟩
    rw [xor64 (by omega) (by omega), xor64 (by omega) (by omega)]
    simp [mix, wd]
  · have e1 : i / 16 = 3 := by omega
    rw [e1]
    go_enter Tryd.func67, Tryd.ntmps67
    go_wp2_with fail
    refine (not_any d hd _).mono ?_
    rintro e w1 ⟨rfl, rfl⟩
    go_wp2_with fail
    go_ret2
    refine ⟨ret_eq ?_, rfl⟩
    rw [or64 (by omega) (by omega), xor64 (by omega) (by omega)]
    simp [mix, wd]

set_option maxHeartbeats 400000 in
theorem begin_any (w : World) :
    Calls Tryd.prog 36 #[] w fun e w' => e = .returned (.agg #[.int .i64 1732584193, .int .i64 4023233417, .int .i64 2562383102, .int .i64 271733878]) ∧ Below w.heap.size w w' := by
  go_enter Tryd.func36, Tryd.ntmps36
  go_wp2
  exact bodyPost_ret (v := .agg #[.int .i64 1732584193, .int .i64 4023233417, .int .i64 2562383102, .int .i64 271733878]) (by simp [results, Tryd.results36, go_sem]) rfl ⟨rfl, (Below.refl _ _).alloc (Nat.le_refl _) _⟩

end Go.Proofs.YtfhddcjepgjfnaaDoor
