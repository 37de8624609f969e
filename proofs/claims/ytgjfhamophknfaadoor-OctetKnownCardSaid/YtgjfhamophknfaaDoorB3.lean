/- Walks: U8, U16, U32, S32. -/
import Derived.Test.YtgjfhamophknfaaDoorB2
namespace Go.Proofs.YtgjfhamophknfaaDoor
open Go.RowKit

set_option maxHeartbeats 400000 in
theorem u8_any (s : ByteArray) (at' : Int) (w : World) :
    Calls Tryd.prog 29 #[.string s, .int .i64 at'] w fun e w' => e = .returned (.tuple #[.int .i64 (numS s at' 1 : Nat), .int .i64 (partE s at' 1)]) ∧ Below w.heap.size w w' := by
  have hN := fun W => number_any s at' 1 (by omega) W
  generalize numS s at' 1 = v at *
  have HN := Lib.hid hN
  clear hN
  go_enter Tryd.func29, Tryd.ntmps29
  go_wp2_with fail
  refine (HN.out _).mono ?_
  rintro e w1 ⟨rfl, hb⟩
  have HB := Lib.hid hb
  clear hb
  go_wp2_with fail
  go_ret2
  exact ⟨rfl, HB.out⟩
set_option maxHeartbeats 400000 in
theorem u16_any (s : ByteArray) (at' : Int) (w : World) :
    Calls Tryd.prog 10 #[.string s, .int .i64 at'] w fun e w' => e = .returned (.tuple #[.int .i64 (numS s at' 2 : Nat), .int .i64 (partE s at' 2)]) ∧ Below w.heap.size w w' := by
  have hN := fun W => number_any s at' 2 (by omega) W
  generalize numS s at' 2 = v at *
  have HN := Lib.hid hN
  clear hN
  go_enter Tryd.func10, Tryd.ntmps10
  go_wp2_with fail
  refine (HN.out _).mono ?_
  rintro e w1 ⟨rfl, hb⟩
  have HB := Lib.hid hb
  clear hb
  go_wp2_with fail
  go_ret2
  exact ⟨rfl, HB.out⟩
set_option maxHeartbeats 400000 in
theorem u32_any (s : ByteArray) (at' : Int) (w : World) :
    Calls Tryd.prog 12 #[.string s, .int .i64 at'] w fun e w' => e = .returned (.tuple #[.int .i64 (numS s at' 4 : Nat), .int .i64 (partE s at' 4)]) ∧ Below w.heap.size w w' := by
  have hN := fun W => number_any s at' 4 (by omega) W
  generalize numS s at' 4 = v at *
  have HN := Lib.hid hN
  clear hN
  go_enter Tryd.func12, Tryd.ntmps12
  go_wp2_with fail
  refine (HN.out _).mono ?_
  rintro e w1 ⟨rfl, hb⟩
  have HB := Lib.hid hb
  clear hb
  go_wp2_with fail
  go_ret2
  exact ⟨rfl, HB.out⟩
/-- A number of 32 bits with a sign. -/
def sgn (v : Nat) : Int := if v < 2147483648 then v else v - 4294967296
theorem numS_lt (s : ByteArray) (at' : Int) (n : Nat) : numS s at' n < 256 ^ n := by
  unfold numS
  split
  · exact num_lt _ (asc_lt _) n
  · exact Nat.pow_pos (by decide)
theorem sgn_eq (v : Nat) (h : v < 4294967296) : wrap64 (wrap32 (v : Int)) = sgn v := by
  unfold wrap64 wrap32 sgn; split <;> omega
theorem sgn_in (v : Nat) (h : v < 4294967296) : -2147483648 ≤ sgn v ∧ sgn v ≤ 2147483647 := by
  unfold sgn; split <;> omega
set_option maxHeartbeats 400000 in
theorem s32_any (s : ByteArray) (at' : Int) (w : World) :
    Calls Tryd.prog 31 #[.string s, .int .i64 at'] w fun e w' => e = .returned (.tuple #[.int .i64 (sgn (numS s at' 4)), .int .i64 (partE s at' 4)]) ∧ Below w.heap.size w w' := by
  have hN := fun W => number_any s at' 4 (by omega) W
  have hl := numS_lt s at' 4
  have hlt : numS s at' 4 < 4294967296 := hl
  generalize numS s at' 4 = v at *
  have he := sgn_eq v hlt
  have hi := sgn_in v hlt
  have HN := Lib.hid hN
  have HE := Lib.hid he
  clear hN hl he
  go_enter Tryd.func31, Tryd.ntmps31
  go_wp2_with fail
  refine (HN.out _).mono ?_
  rintro e w1 ⟨rfl, hb⟩
  have HB := Lib.hid hb
  clear hb
  go_wp2_with fail
  go_ret2
  refine ⟨?_, HB.out⟩
  rw [← HE.out]; rfl
end Go.Proofs.YtgjfhamophknfaaDoor
