/- Walks: strings.Cut and strings.Trim at a zero octet, Text. -/
import Derived.Test.YtgjfhamophknfaaDoorB17
import Derived.Test.YtgjfhamophknfaaDoorShelf
namespace Go.Proofs.YtgjfhamophknfaaDoor
open Go.RowKit

/-- The text ahead of the first zero octet, and the one behind it. -/
def cutA (s : ByteArray) : ByteArray := ⟨(Lib.cut s.data.toList [0]).1.toArray⟩
def cutB (s : ByteArray) : ByteArray := ⟨(Lib.cut s.data.toList [0]).2.1.toArray⟩
def cutC (s : ByteArray) : Bool := (Lib.cut s.data.toList [0]).2.2

set_option maxRecDepth 100000 in
set_option maxHeartbeats 1000000 in
theorem scut_any (s : ByteArray) (hs : s.size ≤ 65536) (w : World) :
    Calls Tryd.prog 70 #[.string s, .string ⟨#[0]⟩] w fun e w' => e = .returned (.tuple #[.string (cutA s), .string (cutB s), .bool (cutC s)]) ∧ Below w.heap.size w w' := by
  have HO : Hid (∀ W : World, _) := fun (W : World) => Tryd.stringslite_Index_one s 0 W
  have hx1 : Lib.indexB s ⟨#[0]⟩ = Lib.indexByte s.data.toList 0 := Lib.index_one s.data.toList 0
  rcases Lib.indexB_cases s ⟨#[0]⟩ with hix | ⟨i, hix, hroom⟩
  · obtain ⟨e1, e2, e3⟩ := Lib.cutB_miss s ⟨#[0]⟩ hix
    rw [hx1] at hix
    rw [show cutA s = s from e1, show cutB s = ByteArray.empty from e2, show cutC s = false from e3]
    have HI := Lib.hid hix
    clear hix hx1 e1 e2 e3
    go_enter Tryd.func70, Tryd.ntmps70
    go_wp2_with fail
    refine (HO.out _).mono ?_
    rintro e w1 ⟨rfl, rfl⟩
    rw [HI.out]
    go_wp2_with fail
    go_ret3
    exact ⟨rfl, Below.refl _ _⟩
  · obtain ⟨e1, e2, e3⟩ := Lib.cutB_hit s ⟨#[0]⟩ i hix
    rw [hx1] at hix
    rw [show cutA s = _ from e1, show cutB s = _ from e2, show cutC s = true from e3]
    have hz : (⟨#[0]⟩ : ByteArray).size = 1 := rfl
    rw [hz] at hroom ⊢
    have HI := Lib.hid hix
    have c1 : (0 : Int) ≤ ↑i := by omega
    have c2 : (↑i : Int) ≤ ↑s.size := by omega
    have c3 : (0 : Int) ≤ ↑i + 1 := by omega
    have c4 : (↑i + 1 : Int) ≤ ↑s.size := by omega
    have c5 : IntKind.i64.wrap (↑i + 1) = ↑i + 1 := by simp [IntKind.wrap, IntKind.bits, IntKind.signed]; omega
    have mixed : Tryd.prog.follows .mixedOrders = true := by kernel_rfl
    clear hix hx1 e1 e2 e3
    go_enter Tryd.func70, Tryd.ntmps70
    go_wp2_with fail
    refine (HO.out _).mono ?_
    rintro e w1 ⟨rfl, rfl⟩
    rw [HI.out]
    go_wp2_with fail
    go_region_o
    go_wp2
    go_ret3
    exact ⟨rfl, (Below.refl _ _).drew⟩
set_option maxRecDepth 100000 in
set_option maxHeartbeats 1000000 in
theorem cut_any (s : ByteArray) (hs : s.size ≤ 65536) (w : World) :
    Calls Tryd.prog 58 #[.string s, .string ⟨#[0]⟩] w fun e w' => e = .returned (.tuple #[.string (cutA s), .string (cutB s), .bool (cutC s)]) ∧ Below w.heap.size w w' := by
  have HO : Hid (∀ W : World, _) := fun (W : World) => scut_any s hs W
  generalize cutA s = a at *
  generalize cutB s = b at *
  generalize cutC s = c at *
  go_enter Tryd.func58, Tryd.ntmps58
  go_wp2_with fail
  refine (HO.out _).mono ?_
  rintro e w1 ⟨rfl, hb⟩
  have HB := Lib.hid hb
  clear hb
  go_wp2_with fail
  go_ret3
  exact ⟨rfl, HB.out⟩
/-- The text without zero octets at its ends. -/
def trim0 (s : ByteArray) : ByteArray := ⟨(Lib.trimB s.data.toList 0).toArray⟩
theorem trim0_any (s : ByteArray) (hs : s.size ≤ 9223372036854775807) (w : World) :
    Calls Tryd.prog 15 #[.string s, .string ⟨#[0]⟩] w fun e w' => e = .returned (.string (trim0 s)) ∧ Below w.heap.size w w' := by
  refine (Tryd.strings_Trim_one s 0 (by decide) w hs).mono ?_
  rintro e w' ⟨rfl, rfl | rfl⟩
  · exact ⟨rfl, Below.refl _ _⟩
  · exact ⟨rfl, (Below.refl _ _).drew⟩
end Go.Proofs.YtgjfhamophknfaaDoor
