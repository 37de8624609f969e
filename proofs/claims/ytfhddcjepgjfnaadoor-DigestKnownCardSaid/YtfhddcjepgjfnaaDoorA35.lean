/- Plain facts and small contracts that DigestKnown wants: known digests, a text as long as allowed, digests in progress that are none. -/
import Derived.Test.YtfhddcjepgjfnaaDoorIv
import Derived.Test.YtfhddcjepgjfnaaDoorA30
import Derived.Test.YtfhddcjepgjfnaaDoorA33
namespace Go.Proofs.YtfhddcjepgjfnaaDoor
open Go.RowKit Md

theorem kn_0 : ByteArray.mk (hexOf (md5 (asc (⟨#[97, 98, 99, 100, 101, 102, 103, 104, 105, 106, 107, 108, 109, 110, 111, 112, 113, 114, 115, 116, 117, 118, 119, 120, 121, 122]⟩ : ByteArray).data.toList))).toArray = (⟨#[99, 51, 102, 99, 100, 51, 100, 55, 54, 49, 57, 50, 101, 52, 48, 48, 55, 100, 102, 98, 52, 57, 54, 99, 99, 97, 54, 55, 101, 49, 51, 98]⟩ : ByteArray) := of_hex ⟨#[97, 98, 99, 100, 101, 102, 103, 104, 105, 106, 107, 108, 109, 110, 111, 112, 113, 114, 115, 116, 117, 118, 119, 120, 121, 122]⟩ ⟨#[99, 51, 102, 99, 100, 51, 100, 55, 54, 49, 57, 50, 101, 52, 48, 48, 55, 100, 102, 98, 52, 57, 54, 99, 99, 97, 54, 55, 101, 49, 51, 98]⟩ (by decide +kernel)
theorem kn_1 : ByteArray.mk (hexOf (md5 (asc (⟨#[65, 66, 67, 68, 69, 70, 71, 72, 73, 74, 75, 76, 77, 78, 79, 80, 81, 82, 83, 84, 85, 86, 87, 88, 89, 90, 97, 98, 99, 100, 101, 102, 103, 104, 105, 106, 107, 108, 109, 110, 111, 112, 113, 114, 115, 116, 117, 118, 119, 120, 121, 122, 48, 49, 50, 51, 52, 53, 54, 55, 56, 57]⟩ : ByteArray).data.toList))).toArray = (⟨#[100, 49, 55, 52, 97, 98, 57, 56, 100, 50, 55, 55, 100, 57, 102, 53, 97, 53, 54, 49, 49, 99, 50, 99, 57, 102, 52, 49, 57, 100, 57, 102]⟩ : ByteArray) := of_hex ⟨#[65, 66, 67, 68, 69, 70, 71, 72, 73, 74, 75, 76, 77, 78, 79, 80, 81, 82, 83, 84, 85, 86, 87, 88, 89, 90, 97, 98, 99, 100, 101, 102, 103, 104, 105, 106, 107, 108, 109, 110, 111, 112, 113, 114, 115, 116, 117, 118, 119, 120, 121, 122, 48, 49, 50, 51, 52, 53, 54, 55, 56, 57]⟩ ⟨#[100, 49, 55, 52, 97, 98, 57, 56, 100, 50, 55, 55, 100, 57, 102, 53, 97, 53, 54, 49, 49, 99, 50, 99, 57, 102, 52, 49, 57, 100, 57, 102]⟩ (by decide +kernel)
theorem kn_2 : ByteArray.mk (hexOf (md5 (asc (⟨(Lib.repeatL (⟨#[49, 50, 51, 52, 53, 54, 55, 56, 57, 48]⟩ : ByteArray).data.toList 8).toArray⟩ : ByteArray).data.toList))).toArray = (⟨#[53, 55, 101, 100, 102, 52, 97, 50, 50, 98, 101, 51, 99, 57, 53, 53, 97, 99, 52, 57, 100, 97, 50, 101, 50, 49, 48, 55, 98, 54, 55, 97]⟩ : ByteArray) := of_hex ⟨(Lib.repeatL (⟨#[49, 50, 51, 52, 53, 54, 55, 56, 57, 48]⟩ : ByteArray).data.toList 8).toArray⟩ ⟨#[53, 55, 101, 100, 102, 52, 97, 50, 50, 98, 101, 51, 99, 57, 53, 53, 97, 99, 52, 57, 100, 97, 50, 101, 50, 49, 48, 55, 98, 54, 55, 97]⟩ (by decide +kernel)
theorem kn_2s : (⟨(Lib.repeatL (⟨#[49, 50, 51, 52, 53, 54, 55, 56, 57, 48]⟩ : ByteArray).data.toList 8).toArray⟩ : ByteArray).size ≤ 65536 := by decide +kernel
theorem full_any (w : World) : Calls Tryd.prog 27 #[.string ⟨#[97]⟩, .int .i64 65536] w fun e w' => ∃ r : ByteArray, e = .returned (.string r) ∧ r.size = 65536 ∧ Below w.heap.size w w' := by
  refine (Tryd.strings_Repeat ⟨#[97]⟩ 65536 w (by omega) (by show 1 * 65536 ≤ _; omega)).mono ?_
  rintro e w' ⟨rfl, hB⟩
  refine ⟨_, rfl, ?_, hB⟩
  show (Lib.repeatL _ 65536).toArray.size = _
  rw [List.size_toArray, repeatL_len]; rfl
theorem small_any (c : UInt8) (z : Nat) (hz : z ≤ 1000) (w : World) : Calls Tryd.prog 27 #[.string ⟨#[c]⟩, .int .i64 z] w fun e w' => e = .returned (.string ⟨(Lib.repeatL [c] z).toArray⟩) ∧ Below w.heap.size w w' :=
  Tryd.strings_Repeat ⟨#[c]⟩ z w (by omega) (by show 1 * z ≤ _; omega)
theorem rep8_any (w : World) : Calls Tryd.prog 27 #[.string ⟨#[49, 50, 51, 52, 53, 54, 55, 56, 57, 48]⟩, .int .i64 8] w fun e w' => e = .returned (.string ⟨(Lib.repeatL (⟨#[49, 50, 51, 52, 53, 54, 55, 56, 57, 48]⟩ : ByteArray).data.toList 8).toArray⟩) ∧ Below w.heap.size w w' :=
  Tryd.strings_Repeat _ 8 w (by omega) (by show 10 * 8 ≤ _; omega)
theorem empty_of_size {q : ByteArray} (h : q.size = 0) : q = ⟨#[]⟩ := ByteArray.ext (Array.eq_empty_of_size_eq_zero h)
/-- A digest in progress of 65536 octets. -/
abbrev fd (t : St) : Array Value := #[.int .i64 t.a, .int .i64 t.b, .int .i64 t.c, .int .i64 t.d, .int .i64 65536, .string ⟨#[]⟩]
theorem known_full (F : ByteArray) (hF : F.size = 65536) : ∃ t : St, t.ok ∧ ∀ w, HasK w → Calls Tryd.prog 22 #[.agg (bd 0 ⟨#[]⟩), .string F] w fun e w' => e = .returned (.tuple #[.agg (fd t), .int .i64 0]) ∧ Below w.heap.size w w' := by
  refine ⟨changed Md.begin (asc (⟨#[]⟩ : ByteArray).data.toList ++ asc F.data.toList), changed_ok _ begin_ok _, fun w hK => ?_⟩
  have h := xmore_yes Md.begin begin_ok 0 (by omega) ⟨#[]⟩ (by decide) F (by omega) w hK
  rw [moreRes_short _ _ _ _ (by omega) _ rfl ⟨#[]⟩ (by
    apply empty_of_size
    rw [ByteArray.size_extract, ByteArray.size_append]
    show min (0 + F.size) (0 + F.size) - (0 + F.size - (0 + F.size) % 64) = 0
    omega)] at h
  refine h.mono fun e w' hh => ⟨hh.1.trans ?_, hh.2⟩
  rw [hF]; rfl
theorem known_same (t : St) (ht : t.ok) (w : World) (hK : HasK w) : Calls Tryd.prog 22 #[.agg (fd t), .string ⟨#[]⟩] w fun e w' => e = .returned (.tuple #[.agg (fd t), .int .i64 0]) ∧ Below w.heap.size w w' := by
  have h := xmore_yes t ht 65536 (by omega) ⟨#[]⟩ (by decide) ⟨#[]⟩ (by decide) w hK
  rw [moreRes_short _ _ _ _ (by decide) t (changed_short _ _ (by decide)) ⟨#[]⟩ (empty_of_size (by decide))] at h
  exact h
theorem known_over (t : St) (ht : t.ok) (w : World) (hK : HasK w) : Calls Tryd.prog 22 #[.agg (fd t), .string ⟨#[97]⟩] w fun e w' => e = .returned (.tuple #[.agg zdv, .int .i64 3]) ∧ Below w.heap.size w w' := by
  have h := xmore_yes t ht 65536 (by omega) ⟨#[]⟩ (by decide) ⟨#[97]⟩ (by decide) w hK
  rw [moreRes_long _ _ _ _ (by decide)] at h
  exact h
theorem known_done (t : St) (ht : t.ok) : ∃ l : List Nat, l.length = 16 ∧ ∀ w, HasK w → Calls Tryd.prog 23 #[.agg (fd t)] w fun e w' => e = .returned (.tuple #[.agg (ob l), .int .i64 0]) ∧ Below w.heap.size w w' :=
  ⟨_, told_length _, fun w hK => xdone_yes t ht 65536 (by omega) ⟨#[]⟩ (by decide) w hK⟩
theorem begin_check (w : World) : Calls Tryd.prog 25 #[.agg (bd 0 ⟨#[]⟩)] w fun e w' => e = .returned (.int .i64 0) ∧ Below w.heap.size w w' :=
  check_ok 1732584193 4023233417 2562383102 271733878 0 ⟨#[]⟩ (by decide) w
/-- The six that are none, behind one another. -/
abbrev bads (G : ByteArray) : Array Value := #[.int .i64 0, .int .i64 0, .int .i64 0, .int .i64 0, .int .i64 (-1), .string ⟨#[]⟩, .int .i64 0, .int .i64 0, .int .i64 0, .int .i64 0, .int .i64 65537, .string ⟨#[97]⟩, .int .i64 0, .int .i64 (-1), .int .i64 0, .int .i64 0, .int .i64 0, .string ⟨#[]⟩, .int .i64 0, .int .i64 0, .int .i64 0, .int .i64 4294967296, .int .i64 0, .string ⟨#[]⟩, .int .i64 0, .int .i64 0, .int .i64 0, .int .i64 0, .int .i64 0, .string ⟨#[97]⟩, .int .i64 0, .int .i64 0, .int .i64 0, .int .i64 0, .int .i64 64, .string G]
theorem bad_at (G : ByteArray) (hG : G.size = 64) (k : Nat) (hk : k < 6) : ∃ (a b c d n : Int) (r : ByteArray), vald a b c d n r = false ∧ ∀ W, (Instr.index 54 (.agg (bads G)) (.int .i64 k)).run Tryd.prog W = .ok (.agg #[.int .i64 a, .int .i64 b, .int .i64 c, .int .i64 d, .int .i64 n, .string r]) W := by
  match k, hk with
  | 0, _ => exact ⟨0, 0, 0, 0, -1, ⟨#[]⟩, by decide, fun W => by kernel_rfl⟩
  | 1, _ => exact ⟨0, 0, 0, 0, 65537, ⟨#[97]⟩, by decide, fun W => by kernel_rfl⟩
  | 2, _ => exact ⟨0, -1, 0, 0, 0, ⟨#[]⟩, by decide, fun W => by kernel_rfl⟩
  | 3, _ => exact ⟨0, 0, 0, 4294967296, 0, ⟨#[]⟩, by decide, fun W => by kernel_rfl⟩
  | 4, _ => exact ⟨0, 0, 0, 0, 0, ⟨#[97]⟩, by decide, fun W => by kernel_rfl⟩
  | 5, _ => exact ⟨0, 0, 0, 0, 64, G, by simp [vald, in32, hG], fun W => by kernel_rfl⟩
abbrev ffs : List Nat := [255, 255, 255, 255, 255, 255, 255, 255, 255, 255, 255, 255, 255, 255, 255, 0]
theorem known_ff : unhexRes (asc (⟨#[102, 102, 102, 102, 102, 102, 102, 102, 102, 102, 102, 102, 102, 102, 102, 102, 102, 102, 102, 102, 102, 102, 102, 102, 102, 102, 102, 102, 102, 102, 48, 48]⟩ : ByteArray).data.toList) = .tuple #[.agg (ob ffs), .int .i64 0] := by
  have hd : digs (asc (⟨#[102, 102, 102, 102, 102, 102, 102, 102, 102, 102, 102, 102, 102, 102, 102, 102, 102, 102, 102, 102, 102, 102, 102, 102, 102, 102, 102, 102, 102, 102, 48, 48]⟩ : ByteArray).data.toList) 32 := by unfold digs; decide
  have hu : unhexL (asc (⟨#[102, 102, 102, 102, 102, 102, 102, 102, 102, 102, 102, 102, 102, 102, 102, 102, 102, 102, 102, 102, 102, 102, 102, 102, 102, 102, 102, 102, 102, 102, 48, 48]⟩ : ByteArray).data.toList) = ffs := by decide
  unfold unhexRes
  rw [if_pos ⟨by decide, hd⟩, hu]
theorem bad_e : unhexRes (asc (⟨#[]⟩ : ByteArray).data.toList) = .tuple #[.agg z16, .int .i64 5] := by
  unfold unhexRes
  rw [if_neg]
  intro h
  have := h.1
  revert this
  decide +kernel
theorem bad_33 : unhexRes (asc (⟨(Lib.repeatL [48] 33).toArray⟩ : ByteArray).data.toList) = .tuple #[.agg z16, .int .i64 5] := by
  unfold unhexRes
  rw [if_neg]
  intro h
  have := h.1
  revert this
  decide +kernel
theorem bad_g : unhexRes (asc (⟨(Lib.repeatL [103] 32).toArray⟩ : ByteArray).data.toList) = .tuple #[.agg z16, .int .i64 5] := by
  unfold unhexRes
  rw [if_neg]
  intro h
  have := h.2 0 (by omega)
  revert this
  decide +kernel
theorem bad_sp : unhexRes (asc (⟨(Lib.repeatL [48] 31).toArray⟩ ++ ⟨#[32]⟩ : ByteArray).data.toList) = .tuple #[.agg z16, .int .i64 5] := by
  unfold unhexRes
  rw [if_neg]
  intro h
  have := h.2 31 (by omega)
  revert this
  decide +kernel
end Go.Proofs.YtfhddcjepgjfnaaDoor
