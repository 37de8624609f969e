/- Walks: the reference's Pad. -/
import Derived.Test.YtgjfhamophknfaaDoorB8
namespace Go.Proofs.YtgjfhamophknfaaDoor
open Go.RowKit

theorem zb_succ (s : ByteArray) (k : Nat) : s ++ zb k ++ zb 1 = s ++ zb (k + 1) := by
  apply ByteArray.ext
  simp [ByteArray.data_append, zb, ← Array.replicate_succ]
theorem zb_zero (s : ByteArray) : s ++ zb 0 = s := by
  apply ByteArray.ext
  simp [ByteArray.data_append, zb]

set_option maxRecDepth 100000 in
set_option maxHeartbeats 1000000 in
theorem padI_any (s : ByteArray) (n : Int) (w : World) :
    Calls Tryd.prog 27 #[.string s, .int .i64 n] w fun e w' => e = .returned (.tuple #[.string (padS s n), .int .i64 (padE s n)]) ∧ Below w.heap.size w w' := by
  by_cases h1 : 65536 < s.size
  · rw [show padS s n = ⟨#[]⟩ by unfold padS; rw [if_pos h1], show padE s n = 3 by unfold padE; rw [if_pos h1]]
    go_enter Tryd.func27, Tryd.ntmps27
    go_wp2_with fail
    go_ret2
    exact ⟨rfl, Below.refl _ _⟩
  have h1' : s.size ≤ 65536 := by omega
  by_cases h2 : n < 1
  · rw [show padS s n = ⟨#[]⟩ by unfold padS; rw [if_neg h1, if_pos (by omega)], show padE s n = 2 by unfold padE; rw [if_neg h1, if_pos (by omega)]]
    clear h1
    go_enter Tryd.func27, Tryd.ntmps27
    go_wp2_with fail
    go_ret2
    exact ⟨rfl, Below.refl _ _⟩
  by_cases h3 : 64 < n
  · rw [show padS s n = ⟨#[]⟩ by unfold padS; rw [if_neg h1, if_pos (by omega)], show padE s n = 2 by unfold padE; rw [if_neg h1, if_pos (by omega)]]
    have h2' : 1 ≤ n := by omega
    clear h1 h2
    go_enter Tryd.func27, Tryd.ntmps27
    go_wp2_with fail
    go_ret2
    exact ⟨rfl, Below.refl _ _⟩
  · obtain ⟨m, rfl⟩ : ∃ m : Nat, n = m := ⟨n.toNat, by omega⟩
    have hno : ¬ ((m : Int) < 1 ∨ 64 < (m : Int)) := by omega
    have hm1 : 1 ≤ m := by omega
    have hm2 : m ≤ 64 := by omega
    have hpl := padZ_lt s.size m (by omega)
    have hpw := padZ_whole s.size m (by omega)
    have hps := fun j => padZ_less s.size m j (by omega)
    unfold padS padE
    rw [if_neg h1, if_neg h1, if_neg hno, if_neg hno, Int.toNat_natCast]
    generalize padZ s.size m = z at *
    have HPW := Lib.hid hpw
    have HPS := Lib.hid hps
    have hm3 : (1 : Int) ≤ m := by omega
    have hm4 : (m : Int) ≤ 64 := by omega
    have hm0 : ((m : Int) == 0) = false := by rw [beq_eq_false_iff_ne]; omega
    have hz1 : (zb 1).size = 1 := zb_size 1
    clear h1 h2 h3 hno hpw hps
    by_cases h4 : 65536 < s.size + z
    · rw [if_pos h4, if_pos h4]
      have H4 := Lib.hid h4
      clear h4
      go_enter Tryd.func27, Tryd.ntmps27
      go_wp2_with fail
      go_loopw [0] (fun x0 W => ∃ (k : Nat) (q : ByteArray), k ≤ z ∧ x0 = .string q ∧ Hid (q = s ++ zb k) ∧ Below w.heap.size w W) (fun x0 _ => match x0 with | .string q => s.size + z - q.size | _ => 0)
      case atStart => exact ⟨0, s, Nat.zero_le _, rfl, (zb_zero s).symm, Below.refl _ _⟩
      case round =>
        obtain ⟨k, q, hk, rfl, HQ, hB⟩ := hrel
        have hqs : q.size = s.size + k := by rw [HQ.out, ByteArray.size_append, zb_size]
        have HS := Lib.hid hqs
        have hq2 : q.size ≤ s.size + k := by omega
        clear hqs
        by_cases hlt : k < z
        · have ht : ((q.size : Int) % (m : Int) != 0) = true := by
            rw [HS.out, show (((s.size + k : Nat) : Int) % (m : Int)) = (((s.size + k) % m : Nat) : Int) by simp, bne_iff_ne]
            have := HPS.out k hlt
            omega
          have hadd : ∀ W, (Op.stringOp .add q (zb 1)).run Tryd.prog W = .ok (.string (q ++ zb 1)) W := fun W => run_string_add W _ _ (by omega) (by omega)
          go_wp2_with fail
          refine (zb_any 1 (by omega) _).mono ?_
          rintro e w1 ⟨rfl, hb⟩
          have HB := Lib.hid hb
          clear hb
          go_wp2_with fail
          go_roundw
          case rel => exact ⟨k + 1, _, by omega, rfl, (by show _ = _; rw [HQ.out, zb_succ]), hB.trans (HB.out.mono hB.size)⟩
          case measure => have := HS.out; dsimp only; rw [ByteArray.size_append, hz1]; omega
        · obtain rfl : k = z := by omega
          have ht : ((q.size : Int) % (m : Int) != 0) = false := by
            rw [HS.out, show (((s.size + k : Nat) : Int) % (m : Int)) = (((s.size + k) % m : Nat) : Int) by simp, HPW.out]
            rfl
          clear hlt hk
          have h5 : 65536 < q.size := by rw [HS.out]; exact H4.out
          go_wp2_with fail
          go_ret2
          exact ⟨rfl, hB⟩
    · rw [if_neg h4, if_neg h4]
      have H4 := Lib.hid h4
      clear h4
      go_enter Tryd.func27, Tryd.ntmps27
      go_wp2_with fail
      go_loopw [0] (fun x0 W => ∃ (k : Nat) (q : ByteArray), k ≤ z ∧ x0 = .string q ∧ Hid (q = s ++ zb k) ∧ Below w.heap.size w W) (fun x0 _ => match x0 with | .string q => s.size + z - q.size | _ => 0)
      case atStart => exact ⟨0, s, Nat.zero_le _, rfl, (zb_zero s).symm, Below.refl _ _⟩
      case round =>
        obtain ⟨k, q, hk, rfl, HQ, hB⟩ := hrel
        have hqs : q.size = s.size + k := by rw [HQ.out, ByteArray.size_append, zb_size]
        have HS := Lib.hid hqs
        have hq2 : q.size ≤ s.size + k := by omega
        clear hqs
        by_cases hlt : k < z
        · have ht : ((q.size : Int) % (m : Int) != 0) = true := by
            rw [HS.out, show (((s.size + k : Nat) : Int) % (m : Int)) = (((s.size + k) % m : Nat) : Int) by simp, bne_iff_ne]
            have := HPS.out k hlt
            omega
          have hadd : ∀ W, (Op.stringOp .add q (zb 1)).run Tryd.prog W = .ok (.string (q ++ zb 1)) W := fun W => run_string_add W _ _ (by omega) (by omega)
          go_wp2_with fail
          refine (zb_any 1 (by omega) _).mono ?_
          rintro e w1 ⟨rfl, hb⟩
          have HB := Lib.hid hb
          clear hb
          go_wp2_with fail
          go_roundw
          case rel => exact ⟨k + 1, _, by omega, rfl, (by show _ = _; rw [HQ.out, zb_succ]), hB.trans (HB.out.mono hB.size)⟩
          case measure => have := HS.out; dsimp only; rw [ByteArray.size_append, hz1]; omega
        · obtain rfl : k = z := by omega
          have ht : ((q.size : Int) % (m : Int) != 0) = false := by
            rw [HS.out, show (((s.size + k : Nat) : Int) % (m : Int)) = (((s.size + k) % m : Nat) : Int) by simp, HPW.out]
            rfl
          clear hlt hk
          have h5 : q.size ≤ 65536 := by rw [HS.out]; have := H4.out; omega
          go_wp2_with fail
          go_ret2
          refine ⟨?_, hB⟩
          rw [← HQ.out]; rfl
end Go.Proofs.YtgjfhamophknfaaDoor
