/- The walk of the reference's octets. -/
import Derived.Test.YtfhddcjepgjfnaaDoorA14
import Derived.OwnWalk
namespace Go.Proofs.YtfhddcjepgjfnaaDoor
open Go.RowKit Md

/-- The first k octets of a number, as values. -/
def ov (x k : Nat) : List Value := (List.range k).map fun i => Value.int .u8 (x / 256 ^ i % 256 : Nat)
theorem ov_length (x k : Nat) : (ov x k).length = k := by simp [ov]
theorem ov_succ (x k : Nat) : ov x (k + 1) = ov x k ++ [.int .u8 (x / 256 ^ k % 256 : Nat)] := by simp [ov, List.range_succ]
theorem info5 : (Tryd.prog.info? 5).map (fun i => (i.zero, i.size, i.bytes)) = some (some (.int .u8 0), 1, 1) := by kernel_rfl
theorem below_grown {B : Nat} {a w w' : World} {v : Value} {n : Nat} {xs : List Value} {e : TypeId} {size : Nat} (h : Below B a w) (hB : B ≤ w.heap.size) (ho : w.ownsRow B e size v n xs) (hg : w.grownBy w' v.ownBlock) : Below B a w' :=
  h.trans ⟨hg.os, hg.tape, hg.output, hg.size, fun k hk => by
    by_cases hk2 : k < w.heap.size
    · exact hg.block k hk2 (fun e => by have := ho.lt k e.symm; omega)
    · exact absurd hk (by omega)⟩

set_option maxRecDepth 100000 in
set_option maxHeartbeats 1000000 in
theorem octets_any (x n : Nat) (hx : x < 9223372036854775808) (hn : n ≤ 8) (w : World) :
    Calls Tryd.prog 55 #[.int .i64 x, .int .i64 n] w fun e w' => ∃ v, e = .returned v ∧ Below w.heap.size w w' ∧ w'.ownsRow w.heap.size 5 1 v n (ov x n) := by
  obtain ⟨i0, hi, hz0, hz1, hz2⟩ := info_parts info5
  go_enter Tryd.func55, Tryd.ntmps55
  go_wp2
  go_loopw [0, 5, 6] (fun x0 v c wr => ∃ k : Nat, k ≤ n ∧ c = .int .i64 k ∧ x0 = .int .i64 (x / 256 ^ k : Nat) ∧ Below w.heap.size w wr ∧ wr.ownsRow w.heap.size 5 1 v k (ov x k)) (fun _ _ i _ => n - (intOf i).toNat)
  case atStart => exact ⟨0, by omega, rfl, by simp, Below.refl _ _, World.ownsRow_nil _ _ _ _⟩
  case round =>
    obtain ⟨k, hk, rfl, rfl, hB, hown⟩ := hrel
    have hq : x / 256 ^ k < 9223372036854775808 := Nat.lt_of_le_of_lt (Nat.div_le_self _ _) hx
    have hq2 : x / 256 ^ (k + 1) = x / 256 ^ k / 256 := by rw [Nat.pow_succ, Nat.div_div_eq_div_mul]
    have hsucc := ov_succ x k
    generalize x / 256 ^ k = q at *
    have Hq2 := Lib.hid hq2
    have Hsucc := Lib.hid hsucc
    clear hq2 hsucc
    by_cases hlt : k < n
    · go_wp2_with (at_builtin; refine wpList_append_own _ rfl _ _ 34 rfl w.heap.size 5 i0 (.int .u8 0) 1 1 Tryd.underlying34 hi hz0 hz1 hz2 rfl (by decide) _ _ _ rfl (hown.alloc _) ⟨wr.heap.size, 0, none⟩ 1 1 [.int .u8 (q % 256 : Nat)] rfl rfl ?c1 ?c2 ?c3 ?c4 ?c5 ?_)
      case c1 =>
        intro j u hj
        match j, hj with
        | 0, hj => simp at hj; subst hj; simp [Addr.add]
      case c2 => intro u hu; simp at hu; subst hu; rfl
      case c3 => unfold maxLen; omega
      case c4 => omega
      case c5 => have := hB.size; simp; omega
      intro v' w1 hown' hgrow _
      have hsz := hB.size
      have hB1 : Below w.heap.size w w1 := below_grown (hB.alloc hsz _) (by simp; omega) (hown.alloc _) hgrow
      have e : ((q % 256 : Nat) : Int) = (q : Int) % 256 := by simp
      have hown2 : w1.ownsRow w.heap.size 5 1 v' (k + 1) (ov x (k + 1)) := by rw [Hsucc.out, e]; exact hown'
      have Hown := Lib.hid hown2
      clear hown' hown2 hgrow hown e
      go_wp2
      go_roundw
      case rel => exact ⟨k + 1, by omega, by go_num, by rw [Hq2.out]; exact int_eq (by simp), hB1, Hown.out⟩
      case measure => simp [intOf]; omega
    · obtain rfl : k = n := by omega
      have Hown := Lib.hid hown
      clear hown
      go_wp2
      go_ret
      exact ⟨_, rfl, hB, Hown.out⟩
end Go.Proofs.YtfhddcjepgjfnaaDoor
