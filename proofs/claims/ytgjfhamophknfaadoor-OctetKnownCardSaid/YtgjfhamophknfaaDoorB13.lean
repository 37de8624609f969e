/- Walks: writers. -/
import Derived.Test.YtgjfhamophknfaaDoorB12
namespace Go.Proofs.YtgjfhamophknfaaDoor
open Go.RowKit

/-- The row of the writers. -/
def wrow (b1 b2 b3 b4 : Nat) : Array Value := #[
  .int .i64 0, .int .i64 255, .func (.func 75) #[] #[.pointer (some ⟨b1, 0, none⟩)],
  .int .i64 0, .int .i64 65535, .func (.func 75) #[] #[.pointer (some ⟨b2, 0, none⟩)],
  .int .i64 0, .int .i64 4294967295, .func (.func 75) #[] #[.pointer (some ⟨b3, 0, none⟩)],
  .int .i64 (-2147483648), .int .i64 2147483647, .func (.func 75) #[] #[.pointer (some ⟨b4, 0, none⟩)]]

theorem w74_iv {n : Int} {w w' : World} (h : Below w.heap.size w w') (hh : w'.heap[w.heap.size]? = some (.cells #[.int .i64 n] 3 (0, 0))) : Iv w w' [(w.heap.size, #[.int .i64 n], 3)] :=
  ⟨h, fun x hx => by rw [List.mem_singleton.1 hx]; exact hh⟩

set_option maxRecDepth 100000 in
set_option maxHeartbeats 1000000 in
theorem w65_any (w : World) :
    Calls Tryd.prog 65 #[] w fun e w' => ∃ b1 b2 b3 b4, e = .returned (.agg (wrow b1 b2 b3 b4)) ∧ Iv w w' [(b4, #[.int .i64 4], 3), (b3, #[.int .i64 4], 3), (b2, #[.int .i64 2], 3), (b1, #[.int .i64 1], 3)] := by
  have I0 := (Iv.start w).new #[.int .i64 0, .int .i64 0, .nilFunc, .int .i64 0, .int .i64 0, .nilFunc, .int .i64 0, .int .i64 0, .nilFunc, .int .i64 0, .int .i64 0, .nilFunc] 90
  have J0 := Lib.hid I0
  have S0 := Lib.hid (show w.heap.size < (w.alloc (.cells #[.int .i64 0, .int .i64 0, .nilFunc, .int .i64 0, .int .i64 0, .nilFunc, .int .i64 0, .int .i64 0, .nilFunc, .int .i64 0, .int .i64 0, .nilFunc] 90)).heap.size by simp)
  clear I0
  go_enter Tryd.func65, Tryd.ntmps65
  go_wp2_with fail
  refine (w74_any _ _ _ _).mono ?_
  rintro e w1 ⟨rfl, hb, hh⟩
  have J1 := Lib.hid (J0.out.join (w74_iv hb hh))
  have S1 := Lib.hid (Nat.lt_of_lt_of_le S0.out hb.size)
  clear hb hh
  go_wp2_with fail
  refine (w74_any _ _ _ _).mono ?_
  rintro e w2 ⟨rfl, hb, hh⟩
  have J2 := Lib.hid (J1.out.join (w74_iv hb hh))
  have S2 := Lib.hid (Nat.lt_of_lt_of_le S1.out hb.size)
  clear hb hh
  go_wp2_with fail
  refine (w74_any _ _ _ _).mono ?_
  rintro e w3 ⟨rfl, hb, hh⟩
  have J3 := Lib.hid (J2.out.join (w74_iv hb hh))
  have S3 := Lib.hid (Nat.lt_of_lt_of_le S2.out hb.size)
  clear hb hh
  go_wp2_with fail
  refine (w74_any _ _ _ _).mono ?_
  rintro e w4 ⟨rfl, hb, hh⟩
  have J4 := Lib.hid (J3.out.join (w74_iv hb hh))
  have S4 := Lib.hid (Nat.lt_of_lt_of_le S3.out hb.size)
  clear hb hh
  go_wp2_with (refine wpList_store_row rfl 90 _ _ rfl w.heap.size (wrow _ _ _ _) rfl rfl 90 _ (J4.out.get 4 rfl) 12 ?c3 ?c4 ?c5 ?c6 ?_)
  case c3 => kernel_rfl
  case c4 => rfl
  case c5 => rfl
  case c6 => rfl
  refine bodyPost_ret (v := .agg (wrow _ _ _ _)) (results_row rfl _ _ w.heap.size 90 _ _ rfl (setRow_heap _ _ _ _ _ _ (J4.out.get 4 rfl)) Tryd.underlying90 rfl 12 (by kernel_rfl) rfl) rfl ⟨_, _, _, _, rfl, ?_⟩
  have K := J4.out.sub (M := (w.heap.size, _, 90) :: [_, _, _, _]) (by
    intro x hx
    simp only [List.mem_cons, List.cons_append, List.nil_append] at hx ⊢
    rcases hx with h | h | h | h | h | h
    · exact .inr (.inr (.inr (.inr (.inl h))))
    · exact .inl h
    · exact .inr (.inl h)
    · exact .inr (.inr (.inl h))
    · exact .inr (.inr (.inr (.inl h)))
    · cases h)
  rw [show ∀ o, (w.alloc o).heap.size = w.heap.size + 1 from fun o => by simp] at K
  refine (K.row (Nat.le_refl _) ?_ _).tail
  have := S1.out; have := S2.out; have := S3.out
  intro x hx
  simp only [List.mem_cons] at hx
  rcases hx with rfl | rfl | rfl | rfl | h
  · dsimp only; omega
  · dsimp only; omega
  · dsimp only; omega
  · dsimp only; omega
  · cases h
end Go.Proofs.YtgjfhamophknfaaDoor
