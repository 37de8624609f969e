/- The iterator over a text's full blocks. -/
import Derived.Test.YtfhddcjepgjfnaaDoorA1
import Derived.Test.YtfhddcjepgjfnaaDoorRange
namespace Go.Proofs.YtfhddcjepgjfnaaDoor
open Go.RowKit Md Go.Shelf
attribute [local go_sem] Oper.semAt_some

def blocksOf : Nat → ByteArray → List ByteArray
  | 0, _ => []
  | n+1, s => s.extract 0 64 :: blocksOf n (s.extract 64 s.size)
def strSize : Option Value → Nat
  | some (.string s) => s.size
  | _ => 0

set_option maxRecDepth 100000 in
set_option maxHeartbeats 1000000 in
theorem blocks1_in (F : Fence) (n : Nat) (h6 : F.fn 63) (hro : F.round = none) (hn : 1 ≤ n) (s : ByteArray) (Bs : Nat) :
    StateSeq F n Tryd.prog 63 #[.pointer (some ⟨Bs, 0, none⟩)] Value.string (blocksOf (s.size / 64) s) Bs (.string s) := by
  intro l J W hJ hY h0 hc hf
  refine callsIn_of_wp Tryd.func63 rfl h6 ?_ hro
  simp only [Tryd.ntmps63, List.size_toArray, List.length_cons, List.length_nil, Nat.reduceAdd, Nat.reduceSub, Array.replicate_succ, Array.replicate_zero, List.push_toArray, List.append_toArray, List.nil_append, List.cons_append]
  gi_wp2
  gi_loopw [3] (fun _ wr => ∃ (pre : List ByteArray) (t : ByteArray), blocksOf (s.size / 64) s = pre ++ blocksOf (t.size / 64) t ∧ J pre wr ∧ wr.cell? ⟨Bs, 0, none⟩ = some (.string t) ∧ wr.frozen? ⟨Bs, 0, none⟩ = false)
    (fun _ wr => strSize (wr.cell? ⟨Bs, 0, none⟩))
  case atStart => exact ⟨[], s, rfl, h0, hc, hf⟩
  case round =>
    obtain ⟨pre, t, hx, hJs, hct, hft⟩ := hrel
    by_cases hlt : 64 ≤ t.size
    · obtain ⟨k, hk⟩ : ∃ k, t.size / 64 = k + 1 := ⟨t.size / 64 - 1, by omega⟩
      have hx' : blocksOf (s.size / 64) s = pre ++ [t.extract 0 64] ++ blocksOf k (t.extract 64 t.size) := by
        rw [hx, hk, blocksOf]; simp
      have hk2 : (t.extract 64 t.size).size / 64 = k := by rw [ByteArray.size_extract]; omega
      obtain ⟨fn, tmps, assign, body, hy, hR⟩ := hY pre (t.extract 0 64) wr hJs (by rw [hx']; exact List.prefix_append _ _)
      have Hx := Lib.hid hx'
      have hct0 := Lib.hid hct
      have Hk := Lib.hid hk2
      have HJ := Lib.hid hJ
      clear hx hx' hk hk2 hJ hY h0 hc hf
      gi_wp2
      refine hR.mono ?_
      rintro e W' ⟨rfl, hJ', hcc, hff⟩
      have hc' := hcc.trans hct
      have hf' := hff.trans hft
      have HJ' := Lib.hid hJ'
      clear hct hft hcc hff hR hy hJ' hJs
      gi_wp2
      go_roundw
      case rel => exact ⟨pre ++ [t.extract 0 64], t.extract 64 t.size, by rw [Hk.out]; exact Hx.out, HJ.out _ _ _ HJ'.out, World.cell?_setCell_same _ _ _ hc', by rw [World.frozen?_setCell]; exact hf'⟩
      case measure => rw [World.cell?_setCell_same _ _ _ hc']; simp [strSize, hct0.out, ByteArray.size_extract]; omega
    · have hz : t.size / 64 = 0 := by omega
      have hx' : blocksOf (s.size / 64) s = pre := by rw [hx, hz, blocksOf]; simp
      have HJ' := Lib.hid (hx' ▸ hJs)
      clear hx hx' hz hJ hY h0 hc hf hJs
      gi_wp2
      go_end0
      exact ⟨⟨_, rfl⟩, HJ'.out⟩
end Go.Proofs.YtfhddcjepgjfnaaDoor
