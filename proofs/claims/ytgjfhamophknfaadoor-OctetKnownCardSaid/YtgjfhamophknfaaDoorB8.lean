/- Walks: Pad on both sides. -/
import Derived.Test.YtgjfhamophknfaaDoorB7
namespace Go.Proofs.YtgjfhamophknfaaDoor
open Go.RowKit

/-- How many zeros fill up to whole groups. -/
def padZ (k m : Nat) : Nat := (m - k % m) % m
theorem padZ_cases (k m : Nat) (hm : 0 < m) : (k % m = 0 ∧ padZ k m = 0) ∨ (0 < k % m ∧ k % m < m ∧ padZ k m = m - k % m) := by
  have h := Nat.mod_lt k hm
  unfold padZ
  by_cases h0 : k % m = 0
  · left; rw [h0, Nat.sub_zero, Nat.mod_self]; exact ⟨rfl, rfl⟩
  · right; exact ⟨by omega, h, Nat.mod_eq_of_lt (by omega)⟩
theorem padZ_lt (k m : Nat) (hm : 0 < m) : padZ k m < m := Nat.mod_lt _ hm
theorem padZ_whole (k m : Nat) (hm : 0 < m) : (k + padZ k m) % m = 0 := by
  rcases padZ_cases k m hm with ⟨h0, hz⟩ | ⟨h0, h1, hz⟩
  · rw [hz]; exact h0
  · rw [hz, Nat.add_mod, Nat.mod_eq_of_lt (show m - k % m < m by omega), show k % m + (m - k % m) = m by omega, Nat.mod_self]
theorem padZ_less (k m j : Nat) (hm : 0 < m) (hj : j < padZ k m) : (k + j) % m ≠ 0 := by
  rcases padZ_cases k m hm with ⟨h0, hz⟩ | ⟨h0, h1, hz⟩
  · omega
  · rw [Nat.add_mod, Nat.mod_eq_of_lt (show j < m by omega), Nat.mod_eq_of_lt (show k % m + j < m by omega)]; omega
theorem padZ_int (k m : Nat) (hm : 0 < m) (hm2 : m ≤ 64) : (wrap64 ((m : Int) - (k : Int) % (m : Int))).tmod (m : Int) = (padZ k m : Nat) := by
  have h := Nat.mod_lt k hm
  have e : (m : Int) - (k : Int) % (m : Int) = ((m - k % m : Nat) : Int) := by
    rw [show ((k : Int) % (m : Int)) = ((k % m : Nat) : Int) by simp, ← Int.ofNat_sub (by omega)]
  rw [e, IntWalk.wrap64_in _ (by omega), Int.tmod_eq_emod_of_nonneg (by omega)]
  unfold padZ
  simp
def padS (s : ByteArray) (n : Int) : ByteArray := if 65536 < s.size then ⟨#[]⟩ else if n < 1 ∨ 64 < n then ⟨#[]⟩ else if 65536 < s.size + padZ s.size n.toNat then ⟨#[]⟩ else s ++ zb (padZ s.size n.toNat)
def padE (s : ByteArray) (n : Int) : Int := if 65536 < s.size then 3 else if n < 1 ∨ 64 < n then 2 else if 65536 < s.size + padZ s.size n.toNat then 3 else 0

set_option maxRecDepth 100000 in
set_option maxHeartbeats 1000000 in
theorem pad_any (s : ByteArray) (n : Int) (w : World) :
    Calls Tryd.prog 13 #[.string s, .int .i64 n] w fun e w' => e = .returned (.tuple #[.string (padS s n), .int .i64 (padE s n)]) ∧ Below w.heap.size w w' := by
  by_cases h1 : 65536 < s.size
  · rw [show padS s n = ⟨#[]⟩ by unfold padS; rw [if_pos h1], show padE s n = 3 by unfold padE; rw [if_pos h1]]
    go_enter Tryd.func13, Tryd.ntmps13
    go_wp2_with fail
    go_ret2
    exact ⟨rfl, Below.refl _ _⟩
  have h1' : s.size ≤ 65536 := by omega
  by_cases h2 : n < 1
  · rw [show padS s n = ⟨#[]⟩ by unfold padS; rw [if_neg h1, if_pos (by omega)], show padE s n = 2 by unfold padE; rw [if_neg h1, if_pos (by omega)]]
    clear h1
    go_enter Tryd.func13, Tryd.ntmps13
    go_wp2_with fail
    go_ret2
    exact ⟨rfl, Below.refl _ _⟩
  by_cases h3 : 64 < n
  · rw [show padS s n = ⟨#[]⟩ by unfold padS; rw [if_neg h1, if_pos (by omega)], show padE s n = 2 by unfold padE; rw [if_neg h1, if_pos (by omega)]]
    have h2' : 1 ≤ n := by omega
    clear h1 h2
    go_enter Tryd.func13, Tryd.ntmps13
    go_wp2_with fail
    go_ret2
    exact ⟨rfl, Below.refl _ _⟩
  · obtain ⟨m, rfl⟩ : ∃ m : Nat, n = m := ⟨n.toNat, by omega⟩
    have hno : ¬ ((m : Int) < 1 ∨ 64 < (m : Int)) := by omega
    have hm1 : 1 ≤ m := by omega
    have hm2 : m ≤ 64 := by omega
    have hpi := padZ_int s.size m (by omega) hm2
    have hpl := padZ_lt s.size m (by omega)
    unfold padS padE
    rw [if_neg h1, if_neg h1, if_neg hno, if_neg hno, Int.toNat_natCast]
    generalize padZ s.size m = z at *
    have hzs := zb_size z
    have hzs2 : (zb z).size ≤ 64 := by omega
    have hadd : ∀ W, (Op.stringOp .add s (zb z)).run Tryd.prog W = .ok (.string (s ++ zb z)) W := fun W => run_string_add W _ _ (by omega) (by omega)
    have hcat : (s ++ zb z).size = s.size + z := by rw [ByteArray.size_append, hzs]
    obtain ⟨q, hq⟩ : ∃ q, s ++ zb z = q := ⟨_, rfl⟩
    rw [hq] at hadd hcat
    rw [hq]
    have HPI := Lib.hid hpi
    have HC := Lib.hid hcat
    have hm3 : (1 : Int) ≤ m := by omega
    have hm4 : (m : Int) ≤ 64 := by omega
    clear h1 h2 h3 hno hpi hzs hq
    by_cases h4 : 65536 < s.size + z
    · rw [if_pos h4, if_pos h4]
      have h5 : 65536 < q.size := by omega
      clear h4 hcat
      go_enter Tryd.func13, Tryd.ntmps13
      go_wp2_with fail
      rw [HPI.out]
      refine (repeat0_any z (by omega) _).mono ?_
      rintro e w1 ⟨rfl, hb⟩
      have HB := Lib.hid hb
      clear hb
      go_wp2_with fail
      go_ret2
      exact ⟨rfl, HB.out⟩
    · rw [if_neg h4, if_neg h4]
      have h5 : q.size ≤ 65536 := by omega
      clear h4 hcat
      go_enter Tryd.func13, Tryd.ntmps13
      go_wp2_with fail
      rw [HPI.out]
      refine (repeat0_any z (by omega) _).mono ?_
      rintro e w1 ⟨rfl, hb⟩
      have HB := Lib.hid hb
      clear hb
      go_wp2_with fail
      go_ret2
      exact ⟨rfl, HB.out⟩
end Go.Proofs.YtgjfhamophknfaaDoor
