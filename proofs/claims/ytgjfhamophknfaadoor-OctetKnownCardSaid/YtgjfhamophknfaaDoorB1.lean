/- Walks: Part. -/
import Derived.Test.YtgjfhamophknfaaDoorRows
import Derived.Test.YtgjfhamophknfaaDoorIv
namespace Go.Proofs.YtgjfhamophknfaaDoor
open Go.RowKit

/-- What Part answers: the octets, and the error. -/
def partS (s : ByteArray) (at' n : Int) : ByteArray := if s.size ≤ 65536 ∧ 0 ≤ at' ∧ 0 ≤ n ∧ at' ≤ s.size ∧ n ≤ s.size - at' then s.extract at'.toNat (at' + n).toNat else ⟨#[]⟩
def partE (s : ByteArray) (at' n : Int) : Int := if 65536 < s.size then 3 else if at' < 0 ∨ n < 0 then 2 else if s.size < at' ∨ s.size - at' < n then 70 else 0

set_option maxRecDepth 100000 in
set_option maxHeartbeats 1000000 in
theorem part_any (s : ByteArray) (at' n : Int) (w : World) :
    Calls Tryd.prog 8 #[.string s, .int .i64 at', .int .i64 n] w fun e w' => e = .returned (.tuple #[.string (partS s at' n), .int .i64 (partE s at' n)]) ∧ w = w' := by
  by_cases h1 : 65536 < s.size
  · have e1 : partS s at' n = ⟨#[]⟩ := by unfold partS; rw [if_neg (by omega)]
    have e2 : partE s at' n = 3 := by unfold partE; rw [if_pos h1]
    rw [e1, e2]
    clear e1 e2
    go_enter Tryd.func8, Tryd.ntmps8
    go_wp2_with fail
    go_ret2
    exact ⟨rfl, rfl⟩
  have h1' : s.size ≤ 65536 := by omega
  by_cases h2 : at' < 0
  · have e1 : partS s at' n = ⟨#[]⟩ := by unfold partS; rw [if_neg (by omega)]
    have e2 : partE s at' n = 2 := by unfold partE; rw [if_neg h1, if_pos (by omega)]
    rw [e1, e2]
    clear e1 e2 h1
    go_enter Tryd.func8, Tryd.ntmps8
    go_wp2_with fail
    go_ret2
    exact ⟨rfl, rfl⟩
  have h2' : 0 ≤ at' := by omega
  by_cases h3 : n < 0
  · have e1 : partS s at' n = ⟨#[]⟩ := by unfold partS; rw [if_neg (by omega)]
    have e2 : partE s at' n = 2 := by unfold partE; rw [if_neg h1, if_pos (by omega)]
    rw [e1, e2]
    clear e1 e2 h1 h2
    go_enter Tryd.func8, Tryd.ntmps8
    go_wp2_with fail
    go_ret2
    exact ⟨rfl, rfl⟩
  have h3' : 0 ≤ n := by omega
  by_cases h4 : (s.size : Int) < at'
  · have e1 : partS s at' n = ⟨#[]⟩ := by unfold partS; rw [if_neg (by omega)]
    have e2 : partE s at' n = 70 := by unfold partE; rw [if_neg h1, if_neg (by omega), if_pos (by omega)]
    rw [e1, e2]
    clear e1 e2 h1 h2 h3
    go_enter Tryd.func8, Tryd.ntmps8
    go_wp2_with fail
    go_ret2
    exact ⟨rfl, rfl⟩
  have h4' : at' ≤ s.size := by omega
  by_cases h5 : (s.size : Int) - at' < n
  · have e1 : partS s at' n = ⟨#[]⟩ := by unfold partS; rw [if_neg (by omega)]
    have e2 : partE s at' n = 70 := by unfold partE; rw [if_neg h1, if_neg (by omega), if_pos (by omega)]
    rw [e1, e2]
    clear e1 e2 h1 h2 h3 h4
    go_enter Tryd.func8, Tryd.ntmps8
    go_wp2_with fail
    go_ret2
    exact ⟨rfl, rfl⟩
  · have h5' : n ≤ (s.size : Int) - at' := by omega
    have h6 : at' + n ≤ s.size := by omega
    have h7 : at' ≤ at' + n := by omega
    have e1 : partS s at' n = s.extract at'.toNat (at' + n).toNat := by unfold partS; rw [if_pos ⟨h1', h2', h3', h4', h5'⟩]
    have e2 : partE s at' n = 0 := by unfold partE; rw [if_neg h1, if_neg (by omega), if_neg (by omega)]
    rw [e1, e2]
    clear e1 e2 h1 h2 h3 h4 h5
    go_enter Tryd.func8, Tryd.ntmps8
    go_wp2_with fail
    go_ret2
    exact ⟨rfl, rfl⟩
theorem partS_size (s : ByteArray) (at' n : Int) (h : partE s at' n = 0) : (partS s at' n).size = n.toNat ∧ 0 ≤ n ∧ 0 ≤ at' ∧ at' + n ≤ s.size ∧ s.size ≤ 65536 ∧ partS s at' n = s.extract at'.toNat (at' + n).toNat := by
  unfold partE at h
  split at h
  · omega
  split at h
  · omega
  split at h
  · omega
  · unfold partS
    rw [if_pos (by omega), ByteArray.size_extract]
    refine ⟨by omega, by omega, by omega, by omega, by omega, rfl⟩
end Go.Proofs.YtgjfhamophknfaaDoor
