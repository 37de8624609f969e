/- The walk of the reference's ended. -/
import Derived.Test.YtfhddcjepgjfnaaDoorA17
import Derived.Test.YtfhddcjepgjfnaaDoorA8
namespace Go.Proofs.YtfhddcjepgjfnaaDoor
open Go.RowKit Md

theorem conv1 (q : UInt8) (b : Nat) (W : World) (h0 : W.cell? ⟨b, 0, none⟩ = some (.int .u8 (q.toNat : Nat))) :
    (convert 34 9 (.slice (some ⟨b, 0, none⟩) 1 1)).run Tryd.prog W = .ok (.string (txt [q])) W := by
  refine run_convert_bytes_back (P := Tryd.prog) W 34 9 5 ⟨b, 0, none⟩ 1 [q] Tryd.underlying34 Tryd.underlying5 Tryd.underlying9 ?_
  intro j hj
  match j, hj with
  | 0, _ => exact h0
theorem conv1_new (q : UInt8) (n : Int) (hn : n = (q.toNat : Nat)) (W : World) :
    (convert 34 9 (.slice (some ⟨W.heap.size, 0, none⟩) 1 1)).run Tryd.prog (W.alloc (.cells #[.int .u8 n] 5)) = .ok (.string (txt [q])) (W.alloc (.cells #[.int .u8 n] 5)) := by
  subst hn
  exact conv1 q _ _ (cell_of_row _ _ _ _ _ _ (heap_alloc_at _ _ _ rfl))
theorem asc_txt1 (q : UInt8) : asc (txt [q]).data.toList = [q.toNat] := rfl
/-- The octets with k zeros behind. -/
def endk (s : ByteArray) (k : Nat) : List Nat := asc s.data.toList ++ (128 :: List.replicate k 0)
theorem endk_length (s : ByteArray) (k : Nat) : (endk s k).length = s.size + 1 + k := by simp [endk, asc_length]; omega
theorem endk_succ (s : ByteArray) (k : Nat) : endk s k ++ [0] = endk s (k + 1) := by
  simp [endk, List.replicate_succ']
theorem conv_oct (x : Nat) (g cap : Nat) (W : World) (h : ∀ j u, (ov x 8)[j]? = some u → W.cell? ⟨g, j, none⟩ = some u) :
    ∃ t : ByteArray, asc t.data.toList = oct8 x ∧ t.size = 8 ∧ (convert 34 9 (.slice (some ⟨g, 0, none⟩) 8 cap)).run Tryd.prog W = .ok (.string t) W := by
  obtain ⟨q0, q1, q2, q3, q4, q5, q6, q7, hq⟩ := oct8_bytes x
  refine ⟨txt [q0, q1, q2, q3, q4, q5, q6, q7], hq.symm, rfl, ?_⟩
  refine run_convert_bytes_back (P := Tryd.prog) W 34 9 5 ⟨g, 0, none⟩ cap [q0, q1, q2, q3, q4, q5, q6, q7] Tryd.underlying34 Tryd.underlying5 Tryd.underlying9 ?_
  intro j hj
  have hv : ∀ i, i < 8 → x / 256 ^ i % 256 = (oct8 x).getD i 0 := fun i hi => (oct8_get x i hi).symm
  have hadd : (⟨g, 0, none⟩ : Addr).add j = ⟨g, j, none⟩ := by unfold Addr.add; split <;> simp_all
  rw [hadd]
  apply h
  have hj8 : j < 8 := hj
  rw [ov, List.getElem?_map, List.getElem?_range hj8, Option.map_some, hv j hj8, hq]
  match j, hj8 with
  | 0, _ => rfl
  | 1, _ => rfl
  | 2, _ => rfl
  | 3, _ => rfl
  | 4, _ => rfl
  | 5, _ => rfl
  | 6, _ => rfl
  | 7, _ => rfl

set_option maxRecDepth 100000 in
set_option maxHeartbeats 1000000 in
theorem endedI_any (s : ByteArray) (n : Nat) (hs : s.size ≤ 1000000) (hn : n ≤ 1000000) (w : World) :
    Calls Tryd.prog 37 #[.string s, .int .i64 n] w fun e w' => ∃ t, e = .returned (.string t) ∧ asc t.data.toList = ended (asc s.data.toList) n ∧ t.size ≤ s.size + 72 ∧ Below w.heap.size w w' := by
  have hc0 := conv1_new 128 128 rfl w
  have hadd : ∀ W, (Op.stringOp .add s (txt [128])).run Tryd.prog W = .ok (.string (s ++ txt [128])) W := fun W => run_string_add W _ _ (by omega) (by show 1 ≤ _; omega)
  have hz0 : (119 - s.size % 64) % 64 < 64 := Nat.mod_lt _ (by decide)
  obtain ⟨z, hz⟩ : ∃ z, (119 - s.size % 64) % 64 = z := ⟨_, rfl⟩
  rw [hz] at hz0
  have hzm : (s.size + 1 + z) % 64 = 56 := by omega
  have hzl : ∀ k, k < z → (s.size + 1 + k) % 64 ≠ 56 := by intro k hk; omega
  have Hz := Lib.hid hz
  have Hzm := Lib.hid hzm
  have Hzl := Lib.hid hzl
  clear hz hzm hzl
  go_enter Tryd.func37, Tryd.ntmps37
  go_wp2_with fail
  go_loopw [5] (fun x wr => ∃ (k : Nat) (q : ByteArray), k ≤ z ∧ x = .string q ∧ Hid (asc q.data.toList = endk s k) ∧ Below w.heap.size w wr) (fun x _ => match x with | .string q => s.size + 1 + z - q.size | _ => 0)
  case atStart => exact ⟨0, _, Nat.zero_le _, rfl, by show asc _ = _; rw [asc_append, asc_txt1]; rfl, (Below.refl _ _).alloc (Nat.le_refl _) _⟩
  case round =>
    obtain ⟨k, q, hk, rfl, HQ, hB⟩ := hrel
    have hqs : q.size = s.size + 1 + k := by rw [← asc_length, HQ.out, endk_length]
    have HS := Lib.hid hqs
    have hq2 : q.size ≤ s.size + 1 + k := by omega
    have hc1 := conv1_new 0 0 rfl wr
    clear hc0 hadd hqs
    by_cases hlt : k < z
    · have ht : ((q.size : Int) % 64 != 56) = true := by have := Hzl.out k hlt; have := HS.out; rw [bne_iff_ne]; omega
      have hadd : ∀ W, (Op.stringOp .add q (txt [0])).run Tryd.prog W = .ok (.string (q ++ txt [0])) W := fun W => run_string_add W _ _ (by omega) (by show 1 ≤ _; omega)
      go_wp2_with fail
      go_roundw
      case rel => exact ⟨k + 1, _, by omega, rfl, by show asc _ = _; rw [asc_append, asc_txt1, HQ.out]; exact endk_succ s k, hB.alloc hB.size _⟩
      case measure => have e1 : (txt [0]).size = 1 := rfl; have := HS.out; dsimp only; rw [ByteArray.size_append, e1]; omega
    · obtain rfl : k = z := by omega
      have ht : ((q.size : Int) % 64 != 56) = false := by have := Hzm.out; have := HS.out; simp; omega
      clear hlt hk
      go_wp2_with fail
      refine (octets_any (8 * n) 8 (by omega) (by omega) wr).mono ?_
      rintro e w1 ⟨v, rfl, hB1, hown⟩
      obtain ⟨g, cap, rfl, hg1, hg2, hcap, hcells⟩ := ownsRow_slice (by omega) hown
      obtain ⟨t, ht8, hts, hcv⟩ := conv_oct (8 * n) g cap w1 hcells
      have Ht8 := Lib.hid ht8
      have Hts := Lib.hid hts
      have hsz := hB.size
      have hadd : ∀ W, (Op.stringOp .add q t).run Tryd.prog W = .ok (.string (q ++ t)) W := fun W => run_string_add W _ _ (by omega) (by omega)
      clear hown hcells ht8 hts
      go_wp2_with fail
      go_ret
      refine ⟨_, rfl, ?_, ?_, hB.trans (hB1.mono hsz)⟩
      · rw [asc_append, HQ.out, Ht8.out, ended, asc_length, Hz.out]; rfl
      · rw [ByteArray.size_append, HS.out, Hts.out]; omega
end Go.Proofs.YtfhddcjepgjfnaaDoor
