/- Plain laws of the digest: pieces. No program in sight. -/
import Derived.Test.YtfhddcjepgjfnaaDoorSpec
namespace Go.Proofs.YtfhddcjepgjfnaaDoor
namespace Md

/-- What stands behind the full blocks. -/
def rest (a : List Nat) : List Nat := a.drop (64 * (a.length / 64))
theorem rest_length (a : List Nat) : (rest a).length = a.length % 64 := by
  unfold rest; rw [List.length_drop]; omega
theorem chg_prefix : ∀ (m : Nat) (s : St) (a b : List Nat), 64 * m ≤ a.length → chg m s (a ++ b) = chg m s a
  | 0, _, _, _, _ => rfl
  | m+1, s, a, b, h => by
    rw [chg, chg, List.take_append_of_le_length (by omega), List.drop_append_of_le_length (by omega)]
    exact chg_prefix m _ _ b (by rw [List.length_drop]; omega)
theorem chg_add : ∀ (m n : Nat) (s : St) (l : List Nat), chg (m + n) s l = chg n (chg m s l) (l.drop (64 * m))
  | 0, n, s, l => by simp [chg]
  | m+1, n, s, l => by
    rw [show m + 1 + n = (m + n) + 1 by omega, chg, chg, chg_add m n, List.drop_drop]
    congr 2; omega
theorem changed_append (s : St) (a b : List Nat) : changed s (a ++ b) = changed (changed s a) (rest a ++ b) := by
  unfold changed
  rw [List.length_append, List.length_append, rest_length]
  have h : (a.length + b.length) / 64 = a.length / 64 + (a.length % 64 + b.length) / 64 := by omega
  rw [h, chg_add, chg_prefix _ _ _ _ (by omega)]
  unfold rest
  rw [List.drop_append_of_le_length (by omega)]
theorem rest_append (a b : List Nat) : rest (rest a ++ b) = rest (a ++ b) := by
  unfold rest
  have h : (a.length + b.length) / 64 = a.length / 64 + (a.length % 64 + b.length) / 64 := by omega
  have hl : (a.drop (64 * (a.length / 64))).length = a.length % 64 := by rw [List.length_drop]; omega
  have e : (a ++ b).drop (64 * (a.length / 64)) = a.drop (64 * (a.length / 64)) ++ b := List.drop_append_of_le_length (by omega)
  rw [List.length_append, List.length_append, hl, h, Nat.mul_add, ← List.drop_drop, e]
theorem changed_ended (s : St) (a : List Nat) (n : Nat) : changed (changed s a) (ended (rest a) n) = changed s (ended a n) := by
  have h : ended (rest a) n = rest a ++ ((128 :: List.replicate ((119 - a.length % 64) % 64) 0) ++ oct8 (8 * n)) := by
    unfold ended; rw [rest_length, Nat.mod_mod, List.append_assoc]
  have h2 : ended a n = a ++ ((128 :: List.replicate ((119 - a.length % 64) % 64) 0) ++ oct8 (8 * n)) := by
    unfold ended; rw [List.append_assoc]
  rw [h, h2, ← changed_append]
end Md
end Go.Proofs.YtfhddcjepgjfnaaDoor
