/- Walks: PutU8, PutU16, PutU32, PutS32. -/
import Derived.Test.YtgjfhamophknfaaDoorB16
namespace Go.Proofs.YtgjfhamophknfaaDoor
open Go.RowKit

theorem octs_tail (x k n : Nat) : octs x (k + n) = octs (x / 256 ^ n) k ++ octs x n := by
  induction n generalizing x with
  | zero => simp [octs]
  | succ n ih =>
    show octs (x / 256) (k + n) ++ [x % 256] = _ ++ (octs (x / 256) n ++ [x % 256])
    rw [ih, Nat.div_div_eq_div_mul, ← Nat.pow_succ', List.append_assoc]
theorem octs_drop (x : Nat) (n : Nat) (hn : n ≤ 4) : (octs x 4).drop (4 - n) = octs x n := by
  have := octs_tail x (4 - n) n
  rw [show 4 - n + n = 4 by omega] at this
  rw [this, List.drop_left' (octs_length _ _)]

set_option maxRecDepth 100000 in
set_option maxHeartbeats 1000000 in
theorem pu8_any (x : Int) (w : World) :
    Calls Tryd.prog 16 #[.int .i64 x] w fun e w' => e = .returned (.tuple #[.string (puS 255 1 x), .int .i64 (puE 255 x)]) ∧ Below w.heap.size w w' := by
  by_cases h1 : x < 0
  · rw [show puS 255 1 x = ⟨#[]⟩ by unfold puS; rw [if_pos (Or.inl h1)], show puE 255 x = 2 by unfold puE; rw [if_pos (Or.inl h1)]]
    have HO : Hid (∀ W : World, _) := fun (W : World) => put1_lo x h1 W
    go_enter Tryd.func16, Tryd.ntmps16
    go_wp2_with fail
    refine (HO.out _).mono ?_
    rintro e w1 ⟨rfl, hb⟩
    have HB := Lib.hid hb
    clear hb
    go_wp2_with fail
    go_ret2
    exact ⟨rfl, HB.out⟩
  by_cases h2 : 255 < x
  · rw [show puS 255 1 x = ⟨#[]⟩ by unfold puS; rw [if_pos (Or.inr h2)], show puE 255 x = 2 by unfold puE; rw [if_pos (Or.inr h2)]]
    have HO : Hid (∀ W : World, _) := fun (W : World) => put1_hi x h2 W
    go_enter Tryd.func16, Tryd.ntmps16
    go_wp2_with fail
    refine (HO.out _).mono ?_
    rintro e w1 ⟨rfl, hb⟩
    have HB := Lib.hid hb
    clear hb
    go_wp2_with fail
    go_ret2
    exact ⟨rfl, HB.out⟩
  · rw [show puS 255 1 x = txtN (octs x.toNat 1) by unfold puS; rw [if_neg (by omega)], show puE 255 x = 0 by unfold puE; rw [if_neg (by omega)]]
    have ho := fun (W : World) => put1_in x (by omega) (by omega) W
    rw [octs_drop _ _ (by omega), show x % 4294967296 = x by omega] at ho
    generalize txtN (octs x.toNat 1) = q at *
    have HO := Lib.hid ho
    clear ho h1 h2
    go_enter Tryd.func16, Tryd.ntmps16
    go_wp2_with fail
    refine (HO.out _).mono ?_
    rintro e w1 ⟨rfl, hb⟩
    have HB := Lib.hid hb
    clear hb
    go_wp2_with fail
    go_ret2
    exact ⟨rfl, HB.out⟩

set_option maxRecDepth 100000 in
set_option maxHeartbeats 1000000 in
theorem pu16_any (x : Int) (w : World) :
    Calls Tryd.prog 17 #[.int .i64 x] w fun e w' => e = .returned (.tuple #[.string (puS 65535 2 x), .int .i64 (puE 65535 x)]) ∧ Below w.heap.size w w' := by
  by_cases h1 : x < 0
  · rw [show puS 65535 2 x = ⟨#[]⟩ by unfold puS; rw [if_pos (Or.inl h1)], show puE 65535 x = 2 by unfold puE; rw [if_pos (Or.inl h1)]]
    have HO : Hid (∀ W : World, _) := fun (W : World) => put2_lo x h1 W
    go_enter Tryd.func17, Tryd.ntmps17
    go_wp2_with fail
    refine (HO.out _).mono ?_
    rintro e w1 ⟨rfl, hb⟩
    have HB := Lib.hid hb
    clear hb
    go_wp2_with fail
    go_ret2
    exact ⟨rfl, HB.out⟩
  by_cases h2 : 65535 < x
  · rw [show puS 65535 2 x = ⟨#[]⟩ by unfold puS; rw [if_pos (Or.inr h2)], show puE 65535 x = 2 by unfold puE; rw [if_pos (Or.inr h2)]]
    have HO : Hid (∀ W : World, _) := fun (W : World) => put2_hi x h2 W
    go_enter Tryd.func17, Tryd.ntmps17
    go_wp2_with fail
    refine (HO.out _).mono ?_
    rintro e w1 ⟨rfl, hb⟩
    have HB := Lib.hid hb
    clear hb
    go_wp2_with fail
    go_ret2
    exact ⟨rfl, HB.out⟩
  · rw [show puS 65535 2 x = txtN (octs x.toNat 2) by unfold puS; rw [if_neg (by omega)], show puE 65535 x = 0 by unfold puE; rw [if_neg (by omega)]]
    have ho := fun (W : World) => put2_in x (by omega) (by omega) W
    rw [octs_drop _ _ (by omega), show x % 4294967296 = x by omega] at ho
    generalize txtN (octs x.toNat 2) = q at *
    have HO := Lib.hid ho
    clear ho h1 h2
    go_enter Tryd.func17, Tryd.ntmps17
    go_wp2_with fail
    refine (HO.out _).mono ?_
    rintro e w1 ⟨rfl, hb⟩
    have HB := Lib.hid hb
    clear hb
    go_wp2_with fail
    go_ret2
    exact ⟨rfl, HB.out⟩

set_option maxRecDepth 100000 in
set_option maxHeartbeats 1000000 in
theorem pu32_any (x : Int) (w : World) :
    Calls Tryd.prog 18 #[.int .i64 x] w fun e w' => e = .returned (.tuple #[.string (puS 4294967295 4 x), .int .i64 (puE 4294967295 x)]) ∧ Below w.heap.size w w' := by
  by_cases h1 : x < 0
  · rw [show puS 4294967295 4 x = ⟨#[]⟩ by unfold puS; rw [if_pos (Or.inl h1)], show puE 4294967295 x = 2 by unfold puE; rw [if_pos (Or.inl h1)]]
    have HO : Hid (∀ W : World, _) := fun (W : World) => put3_lo x h1 W
    go_enter Tryd.func18, Tryd.ntmps18
    go_wp2_with fail
    refine (HO.out _).mono ?_
    rintro e w1 ⟨rfl, hb⟩
    have HB := Lib.hid hb
    clear hb
    go_wp2_with fail
    go_ret2
    exact ⟨rfl, HB.out⟩
  by_cases h2 : 4294967295 < x
  · rw [show puS 4294967295 4 x = ⟨#[]⟩ by unfold puS; rw [if_pos (Or.inr h2)], show puE 4294967295 x = 2 by unfold puE; rw [if_pos (Or.inr h2)]]
    have HO : Hid (∀ W : World, _) := fun (W : World) => put3_hi x h2 W
    go_enter Tryd.func18, Tryd.ntmps18
    go_wp2_with fail
    refine (HO.out _).mono ?_
    rintro e w1 ⟨rfl, hb⟩
    have HB := Lib.hid hb
    clear hb
    go_wp2_with fail
    go_ret2
    exact ⟨rfl, HB.out⟩
  · rw [show puS 4294967295 4 x = txtN (octs x.toNat 4) by unfold puS; rw [if_neg (by omega)], show puE 4294967295 x = 0 by unfold puE; rw [if_neg (by omega)]]
    have ho := fun (W : World) => put3_in x (by omega) (by omega) W
    rw [octs_drop _ _ (by omega), show x % 4294967296 = x by omega] at ho
    generalize txtN (octs x.toNat 4) = q at *
    have HO := Lib.hid ho
    clear ho h1 h2
    go_enter Tryd.func18, Tryd.ntmps18
    go_wp2_with fail
    refine (HO.out _).mono ?_
    rintro e w1 ⟨rfl, hb⟩
    have HB := Lib.hid hb
    clear hb
    go_wp2_with fail
    go_ret2
    exact ⟨rfl, HB.out⟩

set_option maxRecDepth 100000 in
set_option maxHeartbeats 1000000 in
theorem ps32_any (x : Int) (w : World) :
    Calls Tryd.prog 19 #[.int .i64 x] w fun e w' => e = .returned (.tuple #[.string (psS x), .int .i64 (psE x)]) ∧ Below w.heap.size w w' := by
  by_cases h1 : x < -2147483648
  · rw [show psS x = ⟨#[]⟩ by unfold psS; rw [if_pos (Or.inl h1)], show psE x = 2 by unfold psE; rw [if_pos (Or.inl h1)]]
    have HO : Hid (∀ W : World, _) := fun (W : World) => put4_lo x h1 W
    go_enter Tryd.func19, Tryd.ntmps19
    go_wp2_with fail
    refine (HO.out _).mono ?_
    rintro e w1 ⟨rfl, hb⟩
    have HB := Lib.hid hb
    clear hb
    go_wp2_with fail
    go_ret2
    exact ⟨rfl, HB.out⟩
  by_cases h2 : 2147483647 < x
  · rw [show psS x = ⟨#[]⟩ by unfold psS; rw [if_pos (Or.inr h2)], show psE x = 2 by unfold psE; rw [if_pos (Or.inr h2)]]
    have HO : Hid (∀ W : World, _) := fun (W : World) => put4_hi x h2 W
    go_enter Tryd.func19, Tryd.ntmps19
    go_wp2_with fail
    refine (HO.out _).mono ?_
    rintro e w1 ⟨rfl, hb⟩
    have HB := Lib.hid hb
    clear hb
    go_wp2_with fail
    go_ret2
    exact ⟨rfl, HB.out⟩
  · rw [show psS x = txtN (octs (x % 4294967296).toNat 4) by
      unfold psS
      rw [if_neg (by omega)]
      congr 3
      split <;> omega, show psE x = 0 by unfold psE; rw [if_neg (by omega)]]
    have ho := fun (W : World) => put4_in x (by omega) (by omega) W
    rw [octs_drop _ _ (by omega)] at ho
    generalize txtN (octs (x % 4294967296).toNat 4) = q at *
    have HO := Lib.hid ho
    clear ho h1 h2
    go_enter Tryd.func19, Tryd.ntmps19
    go_wp2_with fail
    refine (HO.out _).mono ?_
    rintro e w1 ⟨rfl, hb⟩
    have HB := Lib.hid hb
    clear hb
    go_wp2_with fail
    go_ret2
    exact ⟨rfl, HB.out⟩
end Go.Proofs.YtgjfhamophknfaaDoor
