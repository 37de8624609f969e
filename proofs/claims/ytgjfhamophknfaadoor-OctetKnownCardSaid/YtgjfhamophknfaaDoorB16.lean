/- Walks: put at the other three ranges. -/
import Derived.Test.YtgjfhamophknfaaDoorB15
namespace Go.Proofs.YtgjfhamophknfaaDoor
open Go.RowKit

set_option maxRecDepth 100000 in
set_option maxHeartbeats 2000000 in
theorem put2_in (x : Int) (h0 : 0 ≤ x) (h1 : x ≤ 65535) (w : World) :
    Calls Tryd.prog 46 #[.int .i64 x, .int .i64 0, .int .i64 65535] w fun e w' => e = .returned (.tuple #[.string (txtN ((octs (x % 4294967296).toNat 4).drop (4 - 2))), .int .i64 0]) ∧ Below w.heap.size w w' := by
  go_enter Tryd.func46, Tryd.ntmps46
  go_wp2_with fail
  refine (w65_any _).mono ?_
  rintro e w1 ⟨b1, b2, b3, b4, rfl, hI⟩
  have J := Lib.hid hI
  clear hI
  go_wp2_with fail
  go_loopw [9, 11] (fun _ x11 W => (x11 = .int .i64 0 ∨ x11 = .int .i64 1) ∧ Iv w W [(b4, #[.int .i64 4], 3), (b3, #[.int .i64 4], 3), (b2, #[.int .i64 2], 3), (b1, #[.int .i64 1], 3)]) (fun _ i _ => (4 - intOf i).toNat)
  case atStart => exact ⟨.inl rfl, J.out⟩
  case round =>
    obtain ⟨hk, hI⟩ := hrel
    have J2 := Lib.hid hI
    clear hI J
    rcases hk with rfl | rfl
    · have hix : ∀ W, (Instr.index 90 (.agg (wrow b1 b2 b3 b4)) (.int .i64 0)).run Tryd.prog W = .ok (.agg #[.int .i64 0, .int .i64 255, .func (.func 75) #[] #[.pointer (some ⟨b1, 0, none⟩)]]) W := fun W => rfl
      go_wp2_with fail
      go_roundw
      case rel => exact ⟨.inr (rfl), J2.out.forget _⟩
      case measure => simp [intOf]
    · have hix : ∀ W, (Instr.index 90 (.agg (wrow b1 b2 b3 b4)) (.int .i64 1)).run Tryd.prog W = .ok (.agg #[.int .i64 0, .int .i64 65535, .func (.func 75) #[] #[.pointer (some ⟨b2, 0, none⟩)]]) W := fun W => rfl
      go_wp2_with fail
      refine (w75_any x 2 b2 _ (by omega) (by omega) ((J2.out.forget _).get 2 rfl)).mono ?_
      rintro e w2 ⟨rfl, hb⟩
      have J3 := Lib.hid ((J2.out.forget _).call hb)
      clear hb
      go_wp2_with fail
      go_ret2
      exact ⟨rfl, J3.out.below⟩

set_option maxRecDepth 100000 in
set_option maxHeartbeats 2000000 in
theorem put2_lo (x : Int) (hx : x < 0) (w : World) :
    Calls Tryd.prog 46 #[.int .i64 x, .int .i64 0, .int .i64 65535] w fun e w' => e = .returned (.tuple #[.string ⟨#[]⟩, .int .i64 2]) ∧ Below w.heap.size w w' := by
  go_enter Tryd.func46, Tryd.ntmps46
  go_wp2_with fail
  refine (w65_any _).mono ?_
  rintro e w1 ⟨b1, b2, b3, b4, rfl, hI⟩
  have J := Lib.hid hI
  clear hI
  go_wp2_with fail
  go_loopw [9, 11] (fun _ x11 W => (x11 = .int .i64 0 ∨ x11 = .int .i64 1 ∨ x11 = .int .i64 2 ∨ x11 = .int .i64 3 ∨ x11 = .int .i64 4) ∧ Iv w W [(b4, #[.int .i64 4], 3), (b3, #[.int .i64 4], 3), (b2, #[.int .i64 2], 3), (b1, #[.int .i64 1], 3)]) (fun _ i _ => (4 - intOf i).toNat)
  case atStart => exact ⟨.inl rfl, J.out⟩
  case round =>
    obtain ⟨hk, hI⟩ := hrel
    have J2 := Lib.hid hI
    clear hI J
    rcases hk with rfl | rfl | rfl | rfl | rfl
    · have hix : ∀ W, (Instr.index 90 (.agg (wrow b1 b2 b3 b4)) (.int .i64 0)).run Tryd.prog W = .ok (.agg #[.int .i64 0, .int .i64 255, .func (.func 75) #[] #[.pointer (some ⟨b1, 0, none⟩)]]) W := fun W => rfl
      go_wp2_with fail
      go_roundw
      case rel => exact ⟨.inr (.inl rfl), J2.out.forget _⟩
      case measure => simp [intOf]
    · have hix : ∀ W, (Instr.index 90 (.agg (wrow b1 b2 b3 b4)) (.int .i64 1)).run Tryd.prog W = .ok (.agg #[.int .i64 0, .int .i64 65535, .func (.func 75) #[] #[.pointer (some ⟨b2, 0, none⟩)]]) W := fun W => rfl
      go_wp2_with fail
      go_roundw
      case rel => exact ⟨.inr (.inr (.inl rfl)), J2.out.forget _⟩
      case measure => simp [intOf]
    · have hix : ∀ W, (Instr.index 90 (.agg (wrow b1 b2 b3 b4)) (.int .i64 2)).run Tryd.prog W = .ok (.agg #[.int .i64 0, .int .i64 4294967295, .func (.func 75) #[] #[.pointer (some ⟨b3, 0, none⟩)]]) W := fun W => rfl
      go_wp2_with fail
      go_roundw
      case rel => exact ⟨.inr (.inr (.inr (.inl rfl))), J2.out.forget _⟩
      case measure => simp [intOf]
    · have hix : ∀ W, (Instr.index 90 (.agg (wrow b1 b2 b3 b4)) (.int .i64 3)).run Tryd.prog W = .ok (.agg #[.int .i64 (-2147483648), .int .i64 2147483647, .func (.func 75) #[] #[.pointer (some ⟨b4, 0, none⟩)]]) W := fun W => rfl
      go_wp2_with fail
      go_roundw
      case rel => exact ⟨.inr (.inr (.inr (.inr (rfl)))), J2.out.forget _⟩
      case measure => simp [intOf]
    · go_wp2_with fail
      go_ret2
      exact ⟨rfl, J2.out.below⟩

set_option maxRecDepth 100000 in
set_option maxHeartbeats 2000000 in
theorem put2_hi (x : Int) (hx : 65535 < x) (w : World) :
    Calls Tryd.prog 46 #[.int .i64 x, .int .i64 0, .int .i64 65535] w fun e w' => e = .returned (.tuple #[.string ⟨#[]⟩, .int .i64 2]) ∧ Below w.heap.size w w' := by
  go_enter Tryd.func46, Tryd.ntmps46
  go_wp2_with fail
  refine (w65_any _).mono ?_
  rintro e w1 ⟨b1, b2, b3, b4, rfl, hI⟩
  have J := Lib.hid hI
  clear hI
  go_wp2_with fail
  go_loopw [9, 11] (fun _ x11 W => (x11 = .int .i64 0 ∨ x11 = .int .i64 1 ∨ x11 = .int .i64 2 ∨ x11 = .int .i64 3 ∨ x11 = .int .i64 4) ∧ Iv w W [(b4, #[.int .i64 4], 3), (b3, #[.int .i64 4], 3), (b2, #[.int .i64 2], 3), (b1, #[.int .i64 1], 3)]) (fun _ i _ => (4 - intOf i).toNat)
  case atStart => exact ⟨.inl rfl, J.out⟩
  case round =>
    obtain ⟨hk, hI⟩ := hrel
    have J2 := Lib.hid hI
    clear hI J
    rcases hk with rfl | rfl | rfl | rfl | rfl
    · have hix : ∀ W, (Instr.index 90 (.agg (wrow b1 b2 b3 b4)) (.int .i64 0)).run Tryd.prog W = .ok (.agg #[.int .i64 0, .int .i64 255, .func (.func 75) #[] #[.pointer (some ⟨b1, 0, none⟩)]]) W := fun W => rfl
      go_wp2_with fail
      go_roundw
      case rel => exact ⟨.inr (.inl rfl), J2.out.forget _⟩
      case measure => simp [intOf]
    · have hix : ∀ W, (Instr.index 90 (.agg (wrow b1 b2 b3 b4)) (.int .i64 1)).run Tryd.prog W = .ok (.agg #[.int .i64 0, .int .i64 65535, .func (.func 75) #[] #[.pointer (some ⟨b2, 0, none⟩)]]) W := fun W => rfl
      go_wp2_with fail
      go_roundw
      case rel => exact ⟨.inr (.inr (.inl rfl)), J2.out.forget _⟩
      case measure => simp [intOf]
    · have hix : ∀ W, (Instr.index 90 (.agg (wrow b1 b2 b3 b4)) (.int .i64 2)).run Tryd.prog W = .ok (.agg #[.int .i64 0, .int .i64 4294967295, .func (.func 75) #[] #[.pointer (some ⟨b3, 0, none⟩)]]) W := fun W => rfl
      go_wp2_with fail
      go_roundw
      case rel => exact ⟨.inr (.inr (.inr (.inl rfl))), J2.out.forget _⟩
      case measure => simp [intOf]
    · have hix : ∀ W, (Instr.index 90 (.agg (wrow b1 b2 b3 b4)) (.int .i64 3)).run Tryd.prog W = .ok (.agg #[.int .i64 (-2147483648), .int .i64 2147483647, .func (.func 75) #[] #[.pointer (some ⟨b4, 0, none⟩)]]) W := fun W => rfl
      go_wp2_with fail
      go_roundw
      case rel => exact ⟨.inr (.inr (.inr (.inr (rfl)))), J2.out.forget _⟩
      case measure => simp [intOf]
    · go_wp2_with fail
      go_ret2
      exact ⟨rfl, J2.out.below⟩

set_option maxRecDepth 100000 in
set_option maxHeartbeats 2000000 in
theorem put3_in (x : Int) (h0 : 0 ≤ x) (h1 : x ≤ 4294967295) (w : World) :
    Calls Tryd.prog 46 #[.int .i64 x, .int .i64 0, .int .i64 4294967295] w fun e w' => e = .returned (.tuple #[.string (txtN ((octs (x % 4294967296).toNat 4).drop (4 - 4))), .int .i64 0]) ∧ Below w.heap.size w w' := by
  go_enter Tryd.func46, Tryd.ntmps46
  go_wp2_with fail
  refine (w65_any _).mono ?_
  rintro e w1 ⟨b1, b2, b3, b4, rfl, hI⟩
  have J := Lib.hid hI
  clear hI
  go_wp2_with fail
  go_loopw [9, 11] (fun _ x11 W => (x11 = .int .i64 0 ∨ x11 = .int .i64 1 ∨ x11 = .int .i64 2) ∧ Iv w W [(b4, #[.int .i64 4], 3), (b3, #[.int .i64 4], 3), (b2, #[.int .i64 2], 3), (b1, #[.int .i64 1], 3)]) (fun _ i _ => (4 - intOf i).toNat)
  case atStart => exact ⟨.inl rfl, J.out⟩
  case round =>
    obtain ⟨hk, hI⟩ := hrel
    have J2 := Lib.hid hI
    clear hI J
    rcases hk with rfl | rfl | rfl
    · have hix : ∀ W, (Instr.index 90 (.agg (wrow b1 b2 b3 b4)) (.int .i64 0)).run Tryd.prog W = .ok (.agg #[.int .i64 0, .int .i64 255, .func (.func 75) #[] #[.pointer (some ⟨b1, 0, none⟩)]]) W := fun W => rfl
      go_wp2_with fail
      go_roundw
      case rel => exact ⟨.inr (.inl rfl), J2.out.forget _⟩
      case measure => simp [intOf]
    · have hix : ∀ W, (Instr.index 90 (.agg (wrow b1 b2 b3 b4)) (.int .i64 1)).run Tryd.prog W = .ok (.agg #[.int .i64 0, .int .i64 65535, .func (.func 75) #[] #[.pointer (some ⟨b2, 0, none⟩)]]) W := fun W => rfl
      go_wp2_with fail
      go_roundw
      case rel => exact ⟨.inr (.inr (rfl)), J2.out.forget _⟩
      case measure => simp [intOf]
    · have hix : ∀ W, (Instr.index 90 (.agg (wrow b1 b2 b3 b4)) (.int .i64 2)).run Tryd.prog W = .ok (.agg #[.int .i64 0, .int .i64 4294967295, .func (.func 75) #[] #[.pointer (some ⟨b3, 0, none⟩)]]) W := fun W => rfl
      go_wp2_with fail
      refine (w75_any x 4 b3 _ (by omega) (by omega) ((J2.out.forget _).get 1 rfl)).mono ?_
      rintro e w2 ⟨rfl, hb⟩
      have J3 := Lib.hid ((J2.out.forget _).call hb)
      clear hb
      go_wp2_with fail
      go_ret2
      exact ⟨rfl, J3.out.below⟩

set_option maxRecDepth 100000 in
set_option maxHeartbeats 2000000 in
theorem put3_lo (x : Int) (hx : x < 0) (w : World) :
    Calls Tryd.prog 46 #[.int .i64 x, .int .i64 0, .int .i64 4294967295] w fun e w' => e = .returned (.tuple #[.string ⟨#[]⟩, .int .i64 2]) ∧ Below w.heap.size w w' := by
  go_enter Tryd.func46, Tryd.ntmps46
  go_wp2_with fail
  refine (w65_any _).mono ?_
  rintro e w1 ⟨b1, b2, b3, b4, rfl, hI⟩
  have J := Lib.hid hI
  clear hI
  go_wp2_with fail
  go_loopw [9, 11] (fun _ x11 W => (x11 = .int .i64 0 ∨ x11 = .int .i64 1 ∨ x11 = .int .i64 2 ∨ x11 = .int .i64 3 ∨ x11 = .int .i64 4) ∧ Iv w W [(b4, #[.int .i64 4], 3), (b3, #[.int .i64 4], 3), (b2, #[.int .i64 2], 3), (b1, #[.int .i64 1], 3)]) (fun _ i _ => (4 - intOf i).toNat)
  case atStart => exact ⟨.inl rfl, J.out⟩
  case round =>
    obtain ⟨hk, hI⟩ := hrel
    have J2 := Lib.hid hI
    clear hI J
    rcases hk with rfl | rfl | rfl | rfl | rfl
    · have hix : ∀ W, (Instr.index 90 (.agg (wrow b1 b2 b3 b4)) (.int .i64 0)).run Tryd.prog W = .ok (.agg #[.int .i64 0, .int .i64 255, .func (.func 75) #[] #[.pointer (some ⟨b1, 0, none⟩)]]) W := fun W => rfl
      go_wp2_with fail
      go_roundw
      case rel => exact ⟨.inr (.inl rfl), J2.out.forget _⟩
      case measure => simp [intOf]
    · have hix : ∀ W, (Instr.index 90 (.agg (wrow b1 b2 b3 b4)) (.int .i64 1)).run Tryd.prog W = .ok (.agg #[.int .i64 0, .int .i64 65535, .func (.func 75) #[] #[.pointer (some ⟨b2, 0, none⟩)]]) W := fun W => rfl
      go_wp2_with fail
      go_roundw
      case rel => exact ⟨.inr (.inr (.inl rfl)), J2.out.forget _⟩
      case measure => simp [intOf]
    · have hix : ∀ W, (Instr.index 90 (.agg (wrow b1 b2 b3 b4)) (.int .i64 2)).run Tryd.prog W = .ok (.agg #[.int .i64 0, .int .i64 4294967295, .func (.func 75) #[] #[.pointer (some ⟨b3, 0, none⟩)]]) W := fun W => rfl
      go_wp2_with fail
      go_roundw
      case rel => exact ⟨.inr (.inr (.inr (.inl rfl))), J2.out.forget _⟩
      case measure => simp [intOf]
    · have hix : ∀ W, (Instr.index 90 (.agg (wrow b1 b2 b3 b4)) (.int .i64 3)).run Tryd.prog W = .ok (.agg #[.int .i64 (-2147483648), .int .i64 2147483647, .func (.func 75) #[] #[.pointer (some ⟨b4, 0, none⟩)]]) W := fun W => rfl
      go_wp2_with fail
      go_roundw
      case rel => exact ⟨.inr (.inr (.inr (.inr (rfl)))), J2.out.forget _⟩
      case measure => simp [intOf]
    · go_wp2_with fail
      go_ret2
      exact ⟨rfl, J2.out.below⟩

set_option maxRecDepth 100000 in
set_option maxHeartbeats 2000000 in
theorem put3_hi (x : Int) (hx : 4294967295 < x) (w : World) :
    Calls Tryd.prog 46 #[.int .i64 x, .int .i64 0, .int .i64 4294967295] w fun e w' => e = .returned (.tuple #[.string ⟨#[]⟩, .int .i64 2]) ∧ Below w.heap.size w w' := by
  go_enter Tryd.func46, Tryd.ntmps46
  go_wp2_with fail
  refine (w65_any _).mono ?_
  rintro e w1 ⟨b1, b2, b3, b4, rfl, hI⟩
  have J := Lib.hid hI
  clear hI
  go_wp2_with fail
  go_loopw [9, 11] (fun _ x11 W => (x11 = .int .i64 0 ∨ x11 = .int .i64 1 ∨ x11 = .int .i64 2 ∨ x11 = .int .i64 3 ∨ x11 = .int .i64 4) ∧ Iv w W [(b4, #[.int .i64 4], 3), (b3, #[.int .i64 4], 3), (b2, #[.int .i64 2], 3), (b1, #[.int .i64 1], 3)]) (fun _ i _ => (4 - intOf i).toNat)
  case atStart => exact ⟨.inl rfl, J.out⟩
  case round =>
    obtain ⟨hk, hI⟩ := hrel
    have J2 := Lib.hid hI
    clear hI J
    rcases hk with rfl | rfl | rfl | rfl | rfl
    · have hix : ∀ W, (Instr.index 90 (.agg (wrow b1 b2 b3 b4)) (.int .i64 0)).run Tryd.prog W = .ok (.agg #[.int .i64 0, .int .i64 255, .func (.func 75) #[] #[.pointer (some ⟨b1, 0, none⟩)]]) W := fun W => rfl
      go_wp2_with fail
      go_roundw
      case rel => exact ⟨.inr (.inl rfl), J2.out.forget _⟩
      case measure => simp [intOf]
    · have hix : ∀ W, (Instr.index 90 (.agg (wrow b1 b2 b3 b4)) (.int .i64 1)).run Tryd.prog W = .ok (.agg #[.int .i64 0, .int .i64 65535, .func (.func 75) #[] #[.pointer (some ⟨b2, 0, none⟩)]]) W := fun W => rfl
      go_wp2_with fail
      go_roundw
      case rel => exact ⟨.inr (.inr (.inl rfl)), J2.out.forget _⟩
      case measure => simp [intOf]
    · have hix : ∀ W, (Instr.index 90 (.agg (wrow b1 b2 b3 b4)) (.int .i64 2)).run Tryd.prog W = .ok (.agg #[.int .i64 0, .int .i64 4294967295, .func (.func 75) #[] #[.pointer (some ⟨b3, 0, none⟩)]]) W := fun W => rfl
      go_wp2_with fail
      go_roundw
      case rel => exact ⟨.inr (.inr (.inr (.inl rfl))), J2.out.forget _⟩
      case measure => simp [intOf]
    · have hix : ∀ W, (Instr.index 90 (.agg (wrow b1 b2 b3 b4)) (.int .i64 3)).run Tryd.prog W = .ok (.agg #[.int .i64 (-2147483648), .int .i64 2147483647, .func (.func 75) #[] #[.pointer (some ⟨b4, 0, none⟩)]]) W := fun W => rfl
      go_wp2_with fail
      go_roundw
      case rel => exact ⟨.inr (.inr (.inr (.inr (rfl)))), J2.out.forget _⟩
      case measure => simp [intOf]
    · go_wp2_with fail
      go_ret2
      exact ⟨rfl, J2.out.below⟩

set_option maxRecDepth 100000 in
set_option maxHeartbeats 2000000 in
theorem put4_in (x : Int) (h0 : -2147483648 ≤ x) (h1 : x ≤ 2147483647) (w : World) :
    Calls Tryd.prog 46 #[.int .i64 x, .int .i64 (-2147483648), .int .i64 2147483647] w fun e w' => e = .returned (.tuple #[.string (txtN ((octs (x % 4294967296).toNat 4).drop (4 - 4))), .int .i64 0]) ∧ Below w.heap.size w w' := by
  go_enter Tryd.func46, Tryd.ntmps46
  go_wp2_with fail
  refine (w65_any _).mono ?_
  rintro e w1 ⟨b1, b2, b3, b4, rfl, hI⟩
  have J := Lib.hid hI
  clear hI
  go_wp2_with fail
  go_loopw [9, 11] (fun _ x11 W => (x11 = .int .i64 0 ∨ x11 = .int .i64 1 ∨ x11 = .int .i64 2 ∨ x11 = .int .i64 3) ∧ Iv w W [(b4, #[.int .i64 4], 3), (b3, #[.int .i64 4], 3), (b2, #[.int .i64 2], 3), (b1, #[.int .i64 1], 3)]) (fun _ i _ => (4 - intOf i).toNat)
  case atStart => exact ⟨.inl rfl, J.out⟩
  case round =>
    obtain ⟨hk, hI⟩ := hrel
    have J2 := Lib.hid hI
    clear hI J
    rcases hk with rfl | rfl | rfl | rfl
    · have hix : ∀ W, (Instr.index 90 (.agg (wrow b1 b2 b3 b4)) (.int .i64 0)).run Tryd.prog W = .ok (.agg #[.int .i64 0, .int .i64 255, .func (.func 75) #[] #[.pointer (some ⟨b1, 0, none⟩)]]) W := fun W => rfl
      go_wp2_with fail
      go_roundw
      case rel => exact ⟨.inr (.inl rfl), J2.out.forget _⟩
      case measure => simp [intOf]
    · have hix : ∀ W, (Instr.index 90 (.agg (wrow b1 b2 b3 b4)) (.int .i64 1)).run Tryd.prog W = .ok (.agg #[.int .i64 0, .int .i64 65535, .func (.func 75) #[] #[.pointer (some ⟨b2, 0, none⟩)]]) W := fun W => rfl
      go_wp2_with fail
      go_roundw
      case rel => exact ⟨.inr (.inr (.inl rfl)), J2.out.forget _⟩
      case measure => simp [intOf]
    · have hix : ∀ W, (Instr.index 90 (.agg (wrow b1 b2 b3 b4)) (.int .i64 2)).run Tryd.prog W = .ok (.agg #[.int .i64 0, .int .i64 4294967295, .func (.func 75) #[] #[.pointer (some ⟨b3, 0, none⟩)]]) W := fun W => rfl
      go_wp2_with fail
      go_roundw
      case rel => exact ⟨.inr (.inr (.inr (rfl))), J2.out.forget _⟩
      case measure => simp [intOf]
    · have hix : ∀ W, (Instr.index 90 (.agg (wrow b1 b2 b3 b4)) (.int .i64 3)).run Tryd.prog W = .ok (.agg #[.int .i64 (-2147483648), .int .i64 2147483647, .func (.func 75) #[] #[.pointer (some ⟨b4, 0, none⟩)]]) W := fun W => rfl
      go_wp2_with fail
      refine (w75_any x 4 b4 _ (by omega) (by omega) ((J2.out.forget _).get 0 rfl)).mono ?_
      rintro e w2 ⟨rfl, hb⟩
      have J3 := Lib.hid ((J2.out.forget _).call hb)
      clear hb
      go_wp2_with fail
      go_ret2
      exact ⟨rfl, J3.out.below⟩

set_option maxRecDepth 100000 in
set_option maxHeartbeats 2000000 in
theorem put4_lo (x : Int) (hx : x < -2147483648) (w : World) :
    Calls Tryd.prog 46 #[.int .i64 x, .int .i64 (-2147483648), .int .i64 2147483647] w fun e w' => e = .returned (.tuple #[.string ⟨#[]⟩, .int .i64 2]) ∧ Below w.heap.size w w' := by
  go_enter Tryd.func46, Tryd.ntmps46
  go_wp2_with fail
  refine (w65_any _).mono ?_
  rintro e w1 ⟨b1, b2, b3, b4, rfl, hI⟩
  have J := Lib.hid hI
  clear hI
  go_wp2_with fail
  go_loopw [9, 11] (fun _ x11 W => (x11 = .int .i64 0 ∨ x11 = .int .i64 1 ∨ x11 = .int .i64 2 ∨ x11 = .int .i64 3 ∨ x11 = .int .i64 4) ∧ Iv w W [(b4, #[.int .i64 4], 3), (b3, #[.int .i64 4], 3), (b2, #[.int .i64 2], 3), (b1, #[.int .i64 1], 3)]) (fun _ i _ => (4 - intOf i).toNat)
  case atStart => exact ⟨.inl rfl, J.out⟩
  case round =>
    obtain ⟨hk, hI⟩ := hrel
    have J2 := Lib.hid hI
    clear hI J
    rcases hk with rfl | rfl | rfl | rfl | rfl
    · have hix : ∀ W, (Instr.index 90 (.agg (wrow b1 b2 b3 b4)) (.int .i64 0)).run Tryd.prog W = .ok (.agg #[.int .i64 0, .int .i64 255, .func (.func 75) #[] #[.pointer (some ⟨b1, 0, none⟩)]]) W := fun W => rfl
      go_wp2_with fail
      go_roundw
      case rel => exact ⟨.inr (.inl rfl), J2.out.forget _⟩
      case measure => simp [intOf]
    · have hix : ∀ W, (Instr.index 90 (.agg (wrow b1 b2 b3 b4)) (.int .i64 1)).run Tryd.prog W = .ok (.agg #[.int .i64 0, .int .i64 65535, .func (.func 75) #[] #[.pointer (some ⟨b2, 0, none⟩)]]) W := fun W => rfl
      go_wp2_with fail
      go_roundw
      case rel => exact ⟨.inr (.inr (.inl rfl)), J2.out.forget _⟩
      case measure => simp [intOf]
    · have hix : ∀ W, (Instr.index 90 (.agg (wrow b1 b2 b3 b4)) (.int .i64 2)).run Tryd.prog W = .ok (.agg #[.int .i64 0, .int .i64 4294967295, .func (.func 75) #[] #[.pointer (some ⟨b3, 0, none⟩)]]) W := fun W => rfl
      go_wp2_with fail
      go_roundw
      case rel => exact ⟨.inr (.inr (.inr (.inl rfl))), J2.out.forget _⟩
      case measure => simp [intOf]
    · have hix : ∀ W, (Instr.index 90 (.agg (wrow b1 b2 b3 b4)) (.int .i64 3)).run Tryd.prog W = .ok (.agg #[.int .i64 (-2147483648), .int .i64 2147483647, .func (.func 75) #[] #[.pointer (some ⟨b4, 0, none⟩)]]) W := fun W => rfl
      go_wp2_with fail
      go_roundw
      case rel => exact ⟨.inr (.inr (.inr (.inr (rfl)))), J2.out.forget _⟩
      case measure => simp [intOf]
    · go_wp2_with fail
      go_ret2
      exact ⟨rfl, J2.out.below⟩

set_option maxRecDepth 100000 in
set_option maxHeartbeats 2000000 in
theorem put4_hi (x : Int) (hx : 2147483647 < x) (w : World) :
    Calls Tryd.prog 46 #[.int .i64 x, .int .i64 (-2147483648), .int .i64 2147483647] w fun e w' => e = .returned (.tuple #[.string ⟨#[]⟩, .int .i64 2]) ∧ Below w.heap.size w w' := by
  go_enter Tryd.func46, Tryd.ntmps46
  go_wp2_with fail
  refine (w65_any _).mono ?_
  rintro e w1 ⟨b1, b2, b3, b4, rfl, hI⟩
  have J := Lib.hid hI
  clear hI
  go_wp2_with fail
  go_loopw [9, 11] (fun _ x11 W => (x11 = .int .i64 0 ∨ x11 = .int .i64 1 ∨ x11 = .int .i64 2 ∨ x11 = .int .i64 3 ∨ x11 = .int .i64 4) ∧ Iv w W [(b4, #[.int .i64 4], 3), (b3, #[.int .i64 4], 3), (b2, #[.int .i64 2], 3), (b1, #[.int .i64 1], 3)]) (fun _ i _ => (4 - intOf i).toNat)
  case atStart => exact ⟨.inl rfl, J.out⟩
  case round =>
    obtain ⟨hk, hI⟩ := hrel
    have J2 := Lib.hid hI
    clear hI J
    rcases hk with rfl | rfl | rfl | rfl | rfl
    · have hix : ∀ W, (Instr.index 90 (.agg (wrow b1 b2 b3 b4)) (.int .i64 0)).run Tryd.prog W = .ok (.agg #[.int .i64 0, .int .i64 255, .func (.func 75) #[] #[.pointer (some ⟨b1, 0, none⟩)]]) W := fun W => rfl
      go_wp2_with fail
      go_roundw
      case rel => exact ⟨.inr (.inl rfl), J2.out.forget _⟩
      case measure => simp [intOf]
    · have hix : ∀ W, (Instr.index 90 (.agg (wrow b1 b2 b3 b4)) (.int .i64 1)).run Tryd.prog W = .ok (.agg #[.int .i64 0, .int .i64 65535, .func (.func 75) #[] #[.pointer (some ⟨b2, 0, none⟩)]]) W := fun W => rfl
      go_wp2_with fail
      go_roundw
      case rel => exact ⟨.inr (.inr (.inl rfl)), J2.out.forget _⟩
      case measure => simp [intOf]
    · have hix : ∀ W, (Instr.index 90 (.agg (wrow b1 b2 b3 b4)) (.int .i64 2)).run Tryd.prog W = .ok (.agg #[.int .i64 0, .int .i64 4294967295, .func (.func 75) #[] #[.pointer (some ⟨b3, 0, none⟩)]]) W := fun W => rfl
      go_wp2_with fail
      go_roundw
      case rel => exact ⟨.inr (.inr (.inr (.inl rfl))), J2.out.forget _⟩
      case measure => simp [intOf]
    · have hix : ∀ W, (Instr.index 90 (.agg (wrow b1 b2 b3 b4)) (.int .i64 3)).run Tryd.prog W = .ok (.agg #[.int .i64 (-2147483648), .int .i64 2147483647, .func (.func 75) #[] #[.pointer (some ⟨b4, 0, none⟩)]]) W := fun W => rfl
      go_wp2_with fail
      go_roundw
      case rel => exact ⟨.inr (.inr (.inr (.inr (rfl)))), J2.out.forget _⟩
      case measure => simp [intOf]
    · go_wp2_with fail
      go_ret2
      exact ⟨rfl, J2.out.below⟩

end Go.Proofs.YtgjfhamophknfaaDoor
