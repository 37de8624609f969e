/- Walks: PutText on both sides. -/
import Derived.Test.YtgjfhamophknfaaDoorB6
import Derived.Test.YtgjfhamophknfaaDoorShelf
namespace Go.Proofs.YtgjfhamophknfaaDoor
open Go.RowKit

/-- So many octets 0. -/
def zb (z : Nat) : ByteArray := ⟨(List.replicate z 0).toArray⟩
theorem zb_size (z : Nat) : (zb z).size = z := by simp [zb, ByteArray.size]
theorem repeatL_zero (z : Nat) : Lib.repeatL [(0 : UInt8)] z = List.replicate z 0 := by
  induction z with
  | zero => rfl
  | succ z ih => rw [Lib.repeatL, ih, List.replicate_succ]; rfl
theorem repeat0_any (z : Nat) (hz : z ≤ 100000) (w : World) :
    Calls Tryd.prog 28 #[.string ⟨#[0]⟩, .int .i64 z] w fun e w' => e = .returned (.string (zb z)) ∧ Below w.heap.size w w' := by
  refine (Tryd.strings_Repeat ⟨#[0]⟩ z w (by omega) (by show 1 * z ≤ _; omega)).mono ?_
  rintro e w' ⟨rfl, hB⟩
  refine ⟨?_, hB⟩
  have : Lib.repeatL (⟨#[0]⟩ : ByteArray).data.toList z = List.replicate z 0 := repeatL_zero z
  rw [this]; rfl
theorem zb_any (n : Nat) (hn : n ≤ 65536) (w : World) :
    Calls Tryd.prog 50 #[.int .i64 n] w fun e w' => e = .returned (.string (zb n)) ∧ Below w.heap.size w w' := zeros_any n hn w
/-- What PutText answers. -/
def ptS (t : ByteArray) (n : Int) : ByteArray := if n < 0 ∨ 65536 < n then ⟨#[]⟩ else if prn (asc t.data.toList) = false then ⟨#[]⟩ else if n < t.size then ⟨#[]⟩ else t ++ zb (n - t.size).toNat
def ptE (t : ByteArray) (n : Int) : Int := if n < 0 ∨ 65536 < n then 2 else if prn (asc t.data.toList) = false then 5 else if n < t.size then 3 else 0

set_option maxRecDepth 100000 in
set_option maxHeartbeats 1000000 in
theorem ptext_any (t : ByteArray) (n : Int) (ht : t.size ≤ 140737488355328) (w : World) :
    Calls Tryd.prog 25 #[.string t, .int .i64 n] w fun e w' => e = .returned (.tuple #[.string (ptS t n), .int .i64 (ptE t n)]) ∧ Below w.heap.size w w' := by
  have HP : Hid (∀ W : World, _) := fun (W : World) => plain_any t ht W
  by_cases h1 : n < 0
  · rw [show ptS t n = ⟨#[]⟩ by unfold ptS; rw [if_pos (by omega)], show ptE t n = 2 by unfold ptE; rw [if_pos (by omega)]]
    go_enter Tryd.func25, Tryd.ntmps25
    go_wp2_with fail
    go_ret2
    exact ⟨rfl, Below.refl _ _⟩
  have h1' : 0 ≤ n := by omega
  by_cases h2 : 65536 < n
  · rw [show ptS t n = ⟨#[]⟩ by unfold ptS; rw [if_pos (by omega)], show ptE t n = 2 by unfold ptE; rw [if_pos (by omega)]]
    clear h1
    go_enter Tryd.func25, Tryd.ntmps25
    go_wp2_with fail
    go_ret2
    exact ⟨rfl, Below.refl _ _⟩
  have h2' : n ≤ 65536 := by omega
  have hno : ¬ (n < 0 ∨ 65536 < n) := by omega
  by_cases h3 : prn (asc t.data.toList) = false
  · rw [show ptS t n = ⟨#[]⟩ by unfold ptS; rw [if_neg hno, if_pos h3], show ptE t n = 5 by unfold ptE; rw [if_neg hno, if_pos h3]]
    rw [h3] at HP
    clear h1 h2 h3 hno
    go_enter Tryd.func25, Tryd.ntmps25
    go_wp2_with fail
    refine (HP.out _).mono ?_
    rintro e w1 ⟨rfl, hb⟩
    have HB := Lib.hid hb
    clear hb
    go_wp2_with fail
    go_ret2
    exact ⟨rfl, HB.out⟩
  have h3' : prn (asc t.data.toList) = true := by simpa using h3
  rw [h3'] at HP
  have H3 := Lib.hid h3
  by_cases h4 : n < t.size
  · rw [show ptS t n = ⟨#[]⟩ by unfold ptS; rw [if_neg hno, if_neg H3.out, if_pos h4], show ptE t n = 3 by unfold ptE; rw [if_neg hno, if_neg H3.out, if_pos h4]]
    clear h1 h2 h3 h3' hno
    go_enter Tryd.func25, Tryd.ntmps25
    go_wp2_with fail
    refine (HP.out _).mono ?_
    rintro e w1 ⟨rfl, hb⟩
    have HB := Lib.hid hb
    clear hb
    go_wp2_with fail
    go_ret2
    exact ⟨rfl, HB.out⟩
  · have h4' : (t.size : Int) ≤ n := by omega
    rw [show ptS t n = t ++ zb (n - t.size).toNat by unfold ptS; rw [if_neg hno, if_neg H3.out, if_neg h4], show ptE t n = 0 by unfold ptE; rw [if_neg hno, if_neg H3.out, if_neg h4]]
    obtain ⟨z, hz⟩ : ∃ z : Nat, n - t.size = z := ⟨(n - t.size).toNat, by omega⟩
    have hz1 : z ≤ 65536 := by omega
    rw [show (n - t.size).toNat = z by omega]
    have hzs := zb_size z
    have hzs2 : (zb z).size ≤ 65536 := by omega
    have hadd : ∀ W, (Op.stringOp .add t (zb z)).run Tryd.prog W = .ok (.string (t ++ zb z)) W := fun W => run_string_add W _ _ (by omega) (by omega)
    have HZ := Lib.hid hz
    clear h1 h2 h3 h3' hno h4 hz hzs
    go_enter Tryd.func25, Tryd.ntmps25
    go_wp2_with fail
    refine (HP.out _).mono ?_
    rintro e w1 ⟨rfl, hb⟩
    have HB := Lib.hid hb
    clear hb
    go_wp2_with fail
    rw [HZ.out]
    refine (repeat0_any z (by omega) _).mono ?_
    rintro e w2 ⟨rfl, hb2⟩
    have HB2 := Lib.hid hb2
    clear hb2
    go_wp2_with fail
    go_ret2
    exact ⟨rfl, HB.out.trans (HB2.out.mono HB.out.size)⟩

set_option maxRecDepth 100000 in
set_option maxHeartbeats 1000000 in
theorem ptextI_any (t : ByteArray) (n : Int) (ht : t.size ≤ 140737488355328) (w : World) :
    Calls Tryd.prog 26 #[.string t, .int .i64 n] w fun e w' => e = .returned (.tuple #[.string (ptS t n), .int .i64 (ptE t n)]) ∧ Below w.heap.size w w' := by
  have HP : Hid (∀ W : World, _) := fun (W : World) => printed_any t ht W
  by_cases h1 : n < 0
  · rw [show ptS t n = ⟨#[]⟩ by unfold ptS; rw [if_pos (by omega)], show ptE t n = 2 by unfold ptE; rw [if_pos (by omega)]]
    go_enter Tryd.func26, Tryd.ntmps26
    go_wp2_with fail
    go_ret2
    exact ⟨rfl, Below.refl _ _⟩
  have h1' : 0 ≤ n := by omega
  by_cases h2 : 65536 < n
  · rw [show ptS t n = ⟨#[]⟩ by unfold ptS; rw [if_pos (by omega)], show ptE t n = 2 by unfold ptE; rw [if_pos (by omega)]]
    clear h1
    go_enter Tryd.func26, Tryd.ntmps26
    go_wp2_with fail
    go_ret2
    exact ⟨rfl, Below.refl _ _⟩
  have h2' : n ≤ 65536 := by omega
  have hno : ¬ (n < 0 ∨ 65536 < n) := by omega
  by_cases h3 : prn (asc t.data.toList) = false
  · rw [show ptS t n = ⟨#[]⟩ by unfold ptS; rw [if_neg hno, if_pos h3], show ptE t n = 5 by unfold ptE; rw [if_neg hno, if_pos h3]]
    rw [h3] at HP
    clear h1 h2 h3 hno
    go_enter Tryd.func26, Tryd.ntmps26
    go_wp2_with fail
    refine (HP.out _).mono ?_
    rintro e w1 ⟨rfl, rfl⟩
    go_wp2_with fail
    go_ret2
    exact ⟨rfl, Below.refl _ _⟩
  have h3' : prn (asc t.data.toList) = true := by simpa using h3
  rw [h3'] at HP
  have H3 := Lib.hid h3
  by_cases h4 : n < t.size
  · rw [show ptS t n = ⟨#[]⟩ by unfold ptS; rw [if_neg hno, if_neg H3.out, if_pos h4], show ptE t n = 3 by unfold ptE; rw [if_neg hno, if_neg H3.out, if_pos h4]]
    clear h1 h2 h3 h3' hno
    go_enter Tryd.func26, Tryd.ntmps26
    go_wp2_with fail
    refine (HP.out _).mono ?_
    rintro e w1 ⟨rfl, rfl⟩
    go_wp2_with fail
    go_ret2
    exact ⟨rfl, Below.refl _ _⟩
  · have h4' : (t.size : Int) ≤ n := by omega
    rw [show ptS t n = t ++ zb (n - t.size).toNat by unfold ptS; rw [if_neg hno, if_neg H3.out, if_neg h4], show ptE t n = 0 by unfold ptE; rw [if_neg hno, if_neg H3.out, if_neg h4]]
    obtain ⟨z, hz⟩ : ∃ z : Nat, n - t.size = z := ⟨(n - t.size).toNat, by omega⟩
    have hz1 : z ≤ 65536 := by omega
    rw [show (n - t.size).toNat = z by omega]
    have hzs := zb_size z
    have hzs2 : (zb z).size ≤ 65536 := by omega
    have hadd : ∀ W, (Op.stringOp .add t (zb z)).run Tryd.prog W = .ok (.string (t ++ zb z)) W := fun W => run_string_add W _ _ (by omega) (by omega)
    have HZ := Lib.hid hz
    clear h1 h2 h3 h3' hno h4 hz hzs
    go_enter Tryd.func26, Tryd.ntmps26
    go_wp2_with fail
    refine (HP.out _).mono ?_
    rintro e w1 ⟨rfl, rfl⟩
    go_wp2_with fail
    rw [HZ.out]
    refine (zb_any z (by omega) _).mono ?_
    rintro e w2 ⟨rfl, hb2⟩
    have HB2 := Lib.hid hb2
    clear hb2
    go_wp2_with fail
    go_ret2
    exact ⟨rfl, HB2.out⟩
end Go.Proofs.YtgjfhamophknfaaDoor
