/- Walks: put, at a number out of the range. -/
import Derived.Test.YtgjfhamophknfaaDoorB14
namespace Go.Proofs.YtgjfhamophknfaaDoor
open Go.RowKit

set_option maxRecDepth 100000 in
set_option maxHeartbeats 2000000 in
theorem put1_lo (x : Int) (hx : x < 0) (w : World) :
    Calls Tryd.prog 46 #[.int .i64 x, .int .i64 0, .int .i64 255] w fun e w' => e = .returned (.tuple #[.string ⟨#[]⟩, .int .i64 2]) ∧ Below w.heap.size w w' := by
  go_enter Tryd.func46, Tryd.ntmps46
  go_wp2_with fail
  refine (w65_any _).mono ?_
  rintro e w1 ⟨b1, b2, b3, b4, rfl, hI⟩
  have J := Lib.hid hI.below
  clear hI
  go_wp2_with fail
  go_loopw [9, 11] (fun _ x11 W => (x11 = .int .i64 0 ∨ x11 = .int .i64 1 ∨ x11 = .int .i64 2 ∨ x11 = .int .i64 3 ∨ x11 = .int .i64 4) ∧ Below w.heap.size w W) (fun _ i _ => (4 - intOf i).toNat)
  case atStart => exact ⟨.inl rfl, J.out⟩
  case round =>
    obtain ⟨hk, hI⟩ := hrel
    have J2 := Lib.hid hI
    clear hI J
    rcases hk with rfl | rfl | rfl | rfl | rfl
    · have hix : ∀ W, (Instr.index 90 (.agg (wrow b1 b2 b3 b4)) (.int .i64 0)).run Tryd.prog W = .ok (.agg #[.int .i64 0, .int .i64 255, .func (.func 75) #[] #[.pointer (some ⟨b1, 0, none⟩)]]) W := fun W => rfl
      go_wp2_with fail
      go_roundw
      case rel => exact ⟨.inr (.inl rfl), J2.out.alloc J2.out.size _⟩
      case measure => simp [intOf]
    · have hix : ∀ W, (Instr.index 90 (.agg (wrow b1 b2 b3 b4)) (.int .i64 1)).run Tryd.prog W = .ok (.agg #[.int .i64 0, .int .i64 65535, .func (.func 75) #[] #[.pointer (some ⟨b2, 0, none⟩)]]) W := fun W => rfl
      go_wp2_with fail
      go_roundw
      case rel => exact ⟨.inr (.inr (.inl rfl)), J2.out.alloc J2.out.size _⟩
      case measure => simp [intOf]
    · have hix : ∀ W, (Instr.index 90 (.agg (wrow b1 b2 b3 b4)) (.int .i64 2)).run Tryd.prog W = .ok (.agg #[.int .i64 0, .int .i64 4294967295, .func (.func 75) #[] #[.pointer (some ⟨b3, 0, none⟩)]]) W := fun W => rfl
      go_wp2_with fail
      go_roundw
      case rel => exact ⟨.inr (.inr (.inr (.inl rfl))), J2.out.alloc J2.out.size _⟩
      case measure => simp [intOf]
    · have hix : ∀ W, (Instr.index 90 (.agg (wrow b1 b2 b3 b4)) (.int .i64 3)).run Tryd.prog W = .ok (.agg #[.int .i64 (-2147483648), .int .i64 2147483647, .func (.func 75) #[] #[.pointer (some ⟨b4, 0, none⟩)]]) W := fun W => rfl
      go_wp2_with fail
      go_roundw
      case rel => exact ⟨.inr (.inr (.inr (.inr rfl))), J2.out.alloc J2.out.size _⟩
      case measure => simp [intOf]
    · go_wp2_with fail
      go_ret2
      exact ⟨rfl, J2.out⟩

set_option maxRecDepth 100000 in
set_option maxHeartbeats 2000000 in
theorem put1_hi (x : Int) (hx : 255 < x) (w : World) :
    Calls Tryd.prog 46 #[.int .i64 x, .int .i64 0, .int .i64 255] w fun e w' => e = .returned (.tuple #[.string ⟨#[]⟩, .int .i64 2]) ∧ Below w.heap.size w w' := by
  go_enter Tryd.func46, Tryd.ntmps46
  go_wp2_with fail
  refine (w65_any _).mono ?_
  rintro e w1 ⟨b1, b2, b3, b4, rfl, hI⟩
  have J := Lib.hid hI.below
  clear hI
  go_wp2_with fail
  go_loopw [9, 11] (fun _ x11 W => (x11 = .int .i64 0 ∨ x11 = .int .i64 1 ∨ x11 = .int .i64 2 ∨ x11 = .int .i64 3 ∨ x11 = .int .i64 4) ∧ Below w.heap.size w W) (fun _ i _ => (4 - intOf i).toNat)
  case atStart => exact ⟨.inl rfl, J.out⟩
  case round =>
    obtain ⟨hk, hI⟩ := hrel
    have J2 := Lib.hid hI
    clear hI J
    rcases hk with rfl | rfl | rfl | rfl | rfl
    · have hix : ∀ W, (Instr.index 90 (.agg (wrow b1 b2 b3 b4)) (.int .i64 0)).run Tryd.prog W = .ok (.agg #[.int .i64 0, .int .i64 255, .func (.func 75) #[] #[.pointer (some ⟨b1, 0, none⟩)]]) W := fun W => rfl
      go_wp2_with fail
      go_roundw
      case rel => exact ⟨.inr (.inl rfl), J2.out.alloc J2.out.size _⟩
      case measure => simp [intOf]
    · have hix : ∀ W, (Instr.index 90 (.agg (wrow b1 b2 b3 b4)) (.int .i64 1)).run Tryd.prog W = .ok (.agg #[.int .i64 0, .int .i64 65535, .func (.func 75) #[] #[.pointer (some ⟨b2, 0, none⟩)]]) W := fun W => rfl
      go_wp2_with fail
      go_roundw
      case rel => exact ⟨.inr (.inr (.inl rfl)), J2.out.alloc J2.out.size _⟩
      case measure => simp [intOf]
    · have hix : ∀ W, (Instr.index 90 (.agg (wrow b1 b2 b3 b4)) (.int .i64 2)).run Tryd.prog W = .ok (.agg #[.int .i64 0, .int .i64 4294967295, .func (.func 75) #[] #[.pointer (some ⟨b3, 0, none⟩)]]) W := fun W => rfl
      go_wp2_with fail
      go_roundw
      case rel => exact ⟨.inr (.inr (.inr (.inl rfl))), J2.out.alloc J2.out.size _⟩
      case measure => simp [intOf]
    · have hix : ∀ W, (Instr.index 90 (.agg (wrow b1 b2 b3 b4)) (.int .i64 3)).run Tryd.prog W = .ok (.agg #[.int .i64 (-2147483648), .int .i64 2147483647, .func (.func 75) #[] #[.pointer (some ⟨b4, 0, none⟩)]]) W := fun W => rfl
      go_wp2_with fail
      go_roundw
      case rel => exact ⟨.inr (.inr (.inr (.inr rfl))), J2.out.alloc J2.out.size _⟩
      case measure => simp [intOf]
    · go_wp2_with fail
      go_ret2
      exact ⟨rfl, J2.out⟩

end Go.Proofs.YtgjfhamophknfaaDoor
