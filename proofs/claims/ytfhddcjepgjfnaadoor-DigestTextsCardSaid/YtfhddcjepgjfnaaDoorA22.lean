/- Walks: the reference's Hex. -/
import Derived.Test.YtfhddcjepgjfnaaDoorA20
import Derived.Test.YtfhddcjepgjfnaaDoorA18
import Derived.Test.YtfhddcjepgjfnaaDoorA11
namespace Go.Proofs.YtfhddcjepgjfnaaDoor
open Go.RowKit Md

theorem dig_cut (j : Nat) (h : j < 16) : (⟨#[48, 49, 50, 51, 52, 53, 54, 55, 56, 57, 97, 98, 99, 100, 101, 102]⟩ : ByteArray).extract j (j + 1) = txt [UInt8.ofNat (dig j)] := by
  have : ∀ j : Fin 16, ((⟨#[48, 49, 50, 51, 52, 53, 54, 55, 56, 57, 97, 98, 99, 100, 101, 102]⟩ : ByteArray).extract j.val (j.val + 1)).data.toList = [UInt8.ofNat (dig j.val)] := by decide +kernel
  have h2 := this ⟨j, h⟩
  have h3 : ((⟨#[48, 49, 50, 51, 52, 53, 54, 55, 56, 57, 97, 98, 99, 100, 101, 102]⟩ : ByteArray).extract j (j + 1)).data = #[UInt8.ofNat (dig j)] := Array.toList_inj.1 h2
  exact congrArg ByteArray.mk h3

set_option maxRecDepth 100000 in
set_option maxHeartbeats 1000000 in
theorem hexI_any (l : List Nat) (hl : l.length = 16) (hb : ∀ i, l.getD i 0 < 256) (w : World) :
    Calls Tryd.prog 14 #[.agg (ob l)] w fun e w' => e = .returned (.string ⟨(hexOf l).toArray⟩) ∧ Below w.heap.size w w' := by
  have HL := Lib.hid hl
  have HB := Lib.hid hb
  have HC := Lib.hid (heap_alloc_at w (.cells (ob l) 28) w.heap.size rfl)
  clear hl hb
  go_enter Tryd.func14, Tryd.ntmps14
  go_wp2_with fail
  go_loopw [4, 5] (fun x4 x5 wr => ∃ (k : Nat) (q : ByteArray), k ≤ 16 ∧ x5 = .int .i64 k ∧ x4 = .string q ∧ q.size ≤ 32 ∧ Hid (q = ⟨(hexOf (l.take k)).toArray⟩) ∧ Below w.heap.size w wr ∧ wr.heap[w.heap.size]? = some (.cells (ob l) 28 (0, 0))) (fun _ i _ => 16 - (intOf i).toNat)
  case atStart => exact ⟨0, _, by omega, rfl, rfl, by decide, rfl, (Below.refl _ _).alloc (Nat.le_refl _) _, HC.out⟩
  case round =>
    obtain ⟨k, q, hk, rfl, rfl, hq, HQ, hB, hh⟩ := hrel
    have HH := Lib.hid hh
    clear hh HC
    by_cases hlt : k < 16
    · obtain ⟨o, ho⟩ : ∃ o, l.getD k 0 = o := ⟨_, rfl⟩
      have hc : wr.cell? ⟨w.heap.size, k, none⟩ = some (.int .u8 o) := (cell_of_row _ _ _ _ _ _ HH.out).trans (by rw [← ho]; exact ob_get l k (by rw [HL.out]; exact hlt))
      have ho256 : o < 256 := ho ▸ HB.out k
      have hst := hexOf_succ l k (by rw [HL.out]; exact hlt)
      rw [ho] at hst
      have Hst := Lib.hid hst
      have hqs : q.size = 2 * k := by
        rw [HQ.out]; show (hexOf (l.take k)).toArray.size = _
        rw [List.size_toArray, hexOf_length, List.length_take, HL.out]; omega
      have hq2 : q.size ≤ 2 * k := by omega
      have Hqs := Lib.hid hqs
      clear hst ho hqs
      have a1 : IntKind.u8.wrap ((o : Int) / 16 + 1) = (o : Int) / 16 + 1 := IntWalk.u8_in _ (by omega)
      go_wp2_with fail
      go_quiet (fail)
      go_wp2_with fail
      go_roundw
      case rel =>
        refine ⟨k + 1, _, by omega, by go_num, rfl, ?_, ?_, below_drewN hB _, HH.out⟩
        · rw [dig_cut _ (by omega), dig_cut _ (by omega), ByteArray.size_append, ByteArray.size_append]
          have e1 : ∀ x, (txt [x]).size = 1 := fun _ => rfl
          rw [e1, e1]; omega
        · show _ = _
          rw [dig_cut _ (by omega), dig_cut _ (by omega), HQ.out, Hst.out]
          apply ByteArray.ext
          simp [ByteArray.data_append, txt]
      case measure => simp [intOf]; omega
    · obtain rfl : k = 16 := by omega
      clear hlt hk
      go_wp2_with fail
      go_ret
      refine ⟨ret_eq ?_, hB⟩
      rw [HQ.out, List.take_of_length_le (by rw [HL.out]; omega)]
      rfl
end Go.Proofs.YtfhddcjepgjfnaaDoor
