/- Walks: put. -/
import Derived.Test.YtgjfhamophknfaaDoorB13
namespace Go.Proofs.YtgjfhamophknfaaDoor
open Go.RowKit

set_option maxRecDepth 100000 in
set_option maxHeartbeats 1000000 in
theorem put1_in (x : Int) (h0' : 0 ≤ x) (h1' : x ≤ 255) (w : World) :
    Calls Tryd.prog 46 #[.int .i64 x, .int .i64 0, .int .i64 255] w fun e w' => e = .returned (.tuple #[.string (txtN ((octs (x % 4294967296).toNat 4).drop (4 - 1))), .int .i64 0]) ∧ Below w.heap.size w w' := by
  go_enter Tryd.func46, Tryd.ntmps46
  go_wp2_with fail
  refine (w65_any _).mono ?_
  rintro e w1 ⟨b1, b2, b3, b4, rfl, hI⟩
  have J := Lib.hid hI
  clear hI
  go_wp2_with fail
  go_loopw [9, 11] (fun _ x11 W => x11 = .int .i64 0 ∧ Iv w W [(b4, #[.int .i64 4], 3), (b3, #[.int .i64 4], 3), (b2, #[.int .i64 2], 3), (b1, #[.int .i64 1], 3)]) (fun _ _ _ => 0)
  case atStart => exact ⟨rfl, J.out⟩
  case round =>
    obtain ⟨rfl, hI⟩ := hrel
    have J2 := Lib.hid hI
    clear hI
    have hix : ∀ W, (Instr.index 90 (.agg (wrow b1 b2 b3 b4)) (.int .i64 0)).run Tryd.prog W = .ok (.agg #[.int .i64 0, .int .i64 255, .func (.func 75) #[] #[.pointer (some ⟨b1, 0, none⟩)]]) W := by
      intro W
      first | rfl | kernel_rfl
    go_wp2_with fail
    refine (w75_any x 1 b1 _ (by omega) (by omega) ((J2.out.forget _).get 3 rfl)).mono ?_
    rintro e w2 ⟨rfl, hb⟩
    have J3 := Lib.hid ((J2.out.forget _).call hb)
    clear hb
    go_wp2_with fail
    go_ret2
    exact ⟨rfl, J3.out.below⟩
end Go.Proofs.YtgjfhamophknfaaDoor
