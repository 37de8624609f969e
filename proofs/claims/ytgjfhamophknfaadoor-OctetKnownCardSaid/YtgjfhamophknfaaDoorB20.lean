/- Walks: the statements' works (the examples of the chapter). -/
import Derived.Test.YtgjfhamophknfaaDoorB19
namespace Go.Proofs.YtgjfhamophknfaaDoor
open Go.RowKit

theorem says1_yes (n : Int) (b : Nat) (w : World) (hb : w.heap[b]? = some (.cells #[.int .i64 n] 3 (0, 0))) :
    Calls Tryd.prog 37 #[.int .i64 n, .int .i64 0, .pointer (some ⟨b, 0, none⟩)] w fun r w' => r = .returned (.bool true) ∧ w' = w := by
  have := says1 n n 0 b w hb
  rwa [show (decide (n = n) && decide ((0 : Int) = 0)) = true by simp] at this
theorem stops1_yes (n : Int) (b : Nat) (w : World) (hb : w.heap[b]? = some (.cells #[.int .i64 n] 23 (0, 0))) :
    Calls Tryd.prog 56 #[.int .i64 0, .int .i64 n, .pointer (some ⟨b, 0, none⟩)] w fun r w' => r = .returned (.bool true) ∧ w' = w := by
  have := stops1 0 n n b w hb
  rwa [show (decide ((0 : Int) = 0) && decide (n = n)) = true by simp] at this
theorem is1_yes (n : ByteArray) (b : Nat) (w : World) (hb : w.heap[b]? = some (.cells #[.string n] 9 (0, 0))) :
    Calls Tryd.prog 35 #[.string n, .int .i64 0, .pointer (some ⟨b, 0, none⟩)] w fun r w' => r = .returned (.bool true) ∧ w' = w := by
  have := is1 n n 0 b w hb
  rwa [show (decide (n = n) && decide ((0 : Int) = 0)) = true by simp] at this
theorem fails1_yes (n : Int) (b : Nat) (w : World) (hb : w.heap[b]? = some (.cells #[.int .i64 n] 23 (0, 0))) :
    Calls Tryd.prog 57 #[.string ⟨#[]⟩, .int .i64 n, .pointer (some ⟨b, 0, none⟩)] w fun r w' => r = .returned (.bool true) ∧ w' = w := by
  have := fails1 ⟨#[]⟩ n n b w hb
  rwa [show (decide ((⟨#[]⟩ : ByteArray) = ⟨#[]⟩) && decide (n = n)) = true by simp] at this
theorem wx0 (w : World) :
    Calls Tryd.prog 10 #[.string ⟨#[1, 2, 3]⟩, .int .i64 1] w fun e w' => e = .returned (.tuple #[.int .i64 515, .int .i64 0]) ∧ Below w.heap.size w w' := by
  have h := u16_any ⟨#[1, 2, 3]⟩ 1 w
  rw [show ((numS ⟨#[1, 2, 3]⟩ 1 2 : Nat) : Int) = 515 by decide +kernel, show partE ⟨#[1, 2, 3]⟩ 1 2 = 0 by decide +kernel] at h
  exact h
theorem wx1 (w : World) :
    Calls Tryd.prog 12 #[.string ⟨#[255, 255, 255, 254]⟩, .int .i64 0] w fun e w' => e = .returned (.tuple #[.int .i64 4294967294, .int .i64 0]) ∧ Below w.heap.size w w' := by
  have h := u32_any ⟨#[255, 255, 255, 254]⟩ 0 w
  rw [show ((numS ⟨#[255, 255, 255, 254]⟩ 0 4 : Nat) : Int) = 4294967294 by decide +kernel, show partE ⟨#[255, 255, 255, 254]⟩ 0 4 = 0 by decide +kernel] at h
  exact h
theorem wx2 (w : World) :
    Calls Tryd.prog 31 #[.string ⟨#[255, 255, 255, 254]⟩, .int .i64 0] w fun e w' => e = .returned (.tuple #[.int .i64 (-2), .int .i64 0]) ∧ Below w.heap.size w w' := by
  have h := s32_any ⟨#[255, 255, 255, 254]⟩ 0 w
  rw [show sgn (numS ⟨#[255, 255, 255, 254]⟩ 0 4) = (-2) by decide +kernel, show partE ⟨#[255, 255, 255, 254]⟩ 0 4 = 0 by decide +kernel] at h
  exact h
theorem wx3 (w : World) :
    Calls Tryd.prog 29 #[.string ⟨#[]⟩, .int .i64 0] w fun e w' => e = .returned (.tuple #[.int .i64 0, .int .i64 70]) ∧ Below w.heap.size w w' := by
  have h := u8_any ⟨#[]⟩ 0 w
  rw [show ((numS ⟨#[]⟩ 0 1 : Nat) : Int) = 0 by decide +kernel, show partE ⟨#[]⟩ 0 1 = 70 by decide +kernel] at h
  exact h
theorem wx4 (w : World) :
    Calls Tryd.prog 10 #[.string ⟨#[1, 2, 3]⟩, .int .i64 2] w fun e w' => e = .returned (.tuple #[.int .i64 0, .int .i64 70]) ∧ Below w.heap.size w w' := by
  have h := u16_any ⟨#[1, 2, 3]⟩ 2 w
  rw [show ((numS ⟨#[1, 2, 3]⟩ 2 2 : Nat) : Int) = 0 by decide +kernel, show partE ⟨#[1, 2, 3]⟩ 2 2 = 70 by decide +kernel] at h
  exact h
theorem wx5 (w : World) :
    Calls Tryd.prog 29 #[.string ⟨#[1]⟩, .int .i64 (-1)] w fun e w' => e = .returned (.tuple #[.int .i64 0, .int .i64 2]) ∧ Below w.heap.size w w' := by
  have h := u8_any ⟨#[1]⟩ (-1) w
  rw [show ((numS ⟨#[1]⟩ (-1) 1 : Nat) : Int) = 0 by decide +kernel, show partE ⟨#[1]⟩ (-1) 1 = 2 by decide +kernel] at h
  exact h
theorem wx6 (w : World) :
    Calls Tryd.prog 17 #[.int .i64 515] w fun e w' => e = .returned (.tuple #[.string ⟨#[2, 3]⟩, .int .i64 0]) ∧ Below w.heap.size w w' := by
  have h := pu16_any 515 w
  rw [show puS 65535 2 515 = ⟨#[2, 3]⟩ by decide +kernel, show puE 65535 515 = 0 by decide +kernel] at h
  exact h
theorem wx7 (w : World) :
    Calls Tryd.prog 19 #[.int .i64 (-2)] w fun e w' => e = .returned (.tuple #[.string ⟨#[255, 255, 255, 254]⟩, .int .i64 0]) ∧ Below w.heap.size w w' := by
  have h := ps32_any (-2) w
  rw [show psS (-2) = ⟨#[255, 255, 255, 254]⟩ by decide +kernel, show psE (-2) = 0 by decide +kernel] at h
  exact h
theorem wx8 (w : World) :
    Calls Tryd.prog 16 #[.int .i64 256] w fun e w' => e = .returned (.tuple #[.string ⟨#[]⟩, .int .i64 2]) ∧ Below w.heap.size w w' := by
  have h := pu8_any 256 w
  rw [show puS 255 1 256 = ⟨#[]⟩ by decide +kernel, show puE 255 256 = 2 by decide +kernel] at h
  exact h
theorem wx9 (w : World) :
    Calls Tryd.prog 33 #[.string ⟨#[97, 98, 0, 0]⟩, .int .i64 0, .int .i64 4] w fun e w' => e = .returned (.tuple #[.string ⟨#[97, 98]⟩, .int .i64 0]) ∧ Below w.heap.size w w' := by
  have h := text_any ⟨#[97, 98, 0, 0]⟩ 0 4 w
  rw [show txS ⟨#[97, 98, 0, 0]⟩ 0 4 = ⟨#[97, 98]⟩ by decide +kernel, show txE ⟨#[97, 98, 0, 0]⟩ 0 4 = 0 by decide +kernel] at h
  exact h
theorem wx10 (w : World) :
    Calls Tryd.prog 33 #[.string ⟨#[97, 0, 98, 0]⟩, .int .i64 0, .int .i64 4] w fun e w' => e = .returned (.tuple #[.string ⟨#[]⟩, .int .i64 5]) ∧ Below w.heap.size w w' := by
  have h := text_any ⟨#[97, 0, 98, 0]⟩ 0 4 w
  rw [show txS ⟨#[97, 0, 98, 0]⟩ 0 4 = ⟨#[]⟩ by decide +kernel, show txE ⟨#[97, 0, 98, 0]⟩ 0 4 = 5 by decide +kernel] at h
  exact h
theorem wx11 (w : World) :
    Calls Tryd.prog 33 #[.string ⟨#[97, 10, 0, 0]⟩, .int .i64 0, .int .i64 4] w fun e w' => e = .returned (.tuple #[.string ⟨#[]⟩, .int .i64 5]) ∧ Below w.heap.size w w' := by
  have h := text_any ⟨#[97, 10, 0, 0]⟩ 0 4 w
  rw [show txS ⟨#[97, 10, 0, 0]⟩ 0 4 = ⟨#[]⟩ by decide +kernel, show txE ⟨#[97, 10, 0, 0]⟩ 0 4 = 5 by decide +kernel] at h
  exact h
theorem wx12 (w : World) :
    Calls Tryd.prog 33 #[.string ⟨#[97, 98]⟩, .int .i64 0, .int .i64 2] w fun e w' => e = .returned (.tuple #[.string ⟨#[97, 98]⟩, .int .i64 0]) ∧ Below w.heap.size w w' := by
  have h := text_any ⟨#[97, 98]⟩ 0 2 w
  rw [show txS ⟨#[97, 98]⟩ 0 2 = ⟨#[97, 98]⟩ by decide +kernel, show txE ⟨#[97, 98]⟩ 0 2 = 0 by decide +kernel] at h
  exact h
theorem wx13 (w : World) :
    Calls Tryd.prog 25 #[.string ⟨#[97, 98]⟩, .int .i64 4] w fun e w' => e = .returned (.tuple #[.string ⟨#[97, 98, 0, 0]⟩, .int .i64 0]) ∧ Below w.heap.size w w' := by
  have h := ptext_any ⟨#[97, 98]⟩ 4 (by decide) w
  rw [show ptS ⟨#[97, 98]⟩ 4 = ⟨#[97, 98, 0, 0]⟩ by decide +kernel, show ptE ⟨#[97, 98]⟩ 4 = 0 by decide +kernel] at h
  exact h
theorem wx14 (w : World) :
    Calls Tryd.prog 25 #[.string ⟨#[97, 98, 99]⟩, .int .i64 2] w fun e w' => e = .returned (.tuple #[.string ⟨#[]⟩, .int .i64 3]) ∧ Below w.heap.size w w' := by
  have h := ptext_any ⟨#[97, 98, 99]⟩ 2 (by decide) w
  rw [show ptS ⟨#[97, 98, 99]⟩ 2 = ⟨#[]⟩ by decide +kernel, show ptE ⟨#[97, 98, 99]⟩ 2 = 3 by decide +kernel] at h
  exact h
theorem wx15 (w : World) :
    Calls Tryd.prog 13 #[.string ⟨#[97, 98, 99]⟩, .int .i64 4] w fun e w' => e = .returned (.tuple #[.string ⟨#[97, 98, 99, 0]⟩, .int .i64 0]) ∧ Below w.heap.size w w' := by
  have h := pad_any ⟨#[97, 98, 99]⟩ 4 w
  rw [show padS ⟨#[97, 98, 99]⟩ 4 = ⟨#[97, 98, 99, 0]⟩ by decide +kernel, show padE ⟨#[97, 98, 99]⟩ 4 = 0 by decide +kernel] at h
  exact h
theorem wx16 (w : World) :
    Calls Tryd.prog 13 #[.string ⟨#[97, 98, 99, 100]⟩, .int .i64 4] w fun e w' => e = .returned (.tuple #[.string ⟨#[97, 98, 99, 100]⟩, .int .i64 0]) ∧ Below w.heap.size w w' := by
  have h := pad_any ⟨#[97, 98, 99, 100]⟩ 4 w
  rw [show padS ⟨#[97, 98, 99, 100]⟩ 4 = ⟨#[97, 98, 99, 100]⟩ by decide +kernel, show padE ⟨#[97, 98, 99, 100]⟩ 4 = 0 by decide +kernel] at h
  exact h
theorem wx17 (w : World) :
    Calls Tryd.prog 8 #[.string ⟨#[97, 98, 99]⟩, .int .i64 1, .int .i64 1] w fun e w' => e = .returned (.tuple #[.string ⟨#[98]⟩, .int .i64 0]) ∧ Below w.heap.size w w' := by
  have h := part_any ⟨#[97, 98, 99]⟩ 1 1 w
  rw [show partS ⟨#[97, 98, 99]⟩ 1 1 = ⟨#[98]⟩ by decide +kernel, show partE ⟨#[97, 98, 99]⟩ 1 1 = 0 by decide +kernel] at h
  exact h.mono fun e w1 hh => ⟨hh.1, hh.2 ▸ Below.refl _ _⟩

set_option maxRecDepth 100000 in
set_option maxHeartbeats 4000000 in
theorem works_any (w : World) : Calls Tryd.prog 7 #[] w fun e w' => e = .returned (.bool true) ∧ Below w.heap.size w w' := by
  have HB0 := Lib.hid (Below.refl w.heap.size w)
  go_enter Tryd.func7, Tryd.ntmps7
  go_wp2_with fail
  refine (says_any _ _).mono ?_
  rintro e u1 ⟨b1, rfl, hb, hl, hc⟩
  have HB1a := Lib.hid (HB0.out.trans (hb.mono HB0.out.size))
  have HC1 := Lib.hid hc
  have HL1 := Lib.hid hl
  clear hb hc hl HB0
  go_wp2_with fail
  refine (wx0 _).mono ?_
  rintro e v1 ⟨rfl, hb⟩
  have HB1 := Lib.hid (HB1a.out.trans (hb.mono HB1a.out.size))
  have HD1 := Lib.hid ((hb.block b1 HL1.out).trans HC1.out)
  clear hb HC1 HL1 HB1a
  go_wp2_with fail
  refine (says1_yes _ _ _ HD1.out).mono ?_
  rintro e v1' ⟨rfl, rfl⟩
  clear HD1
  go_wp2_with fail
  refine (says_any _ _).mono ?_
  rintro e u2 ⟨b2, rfl, hb, hl, hc⟩
  have HB2a := Lib.hid (HB1.out.trans (hb.mono HB1.out.size))
  have HC2 := Lib.hid hc
  have HL2 := Lib.hid hl
  clear hb hc hl HB1
  go_wp2_with fail
  refine (wx1 _).mono ?_
  rintro e v2 ⟨rfl, hb⟩
  have HB2 := Lib.hid (HB2a.out.trans (hb.mono HB2a.out.size))
  have HD2 := Lib.hid ((hb.block b2 HL2.out).trans HC2.out)
  clear hb HC2 HL2 HB2a
  go_wp2_with fail
  refine (says1_yes _ _ _ HD2.out).mono ?_
  rintro e v2' ⟨rfl, rfl⟩
  clear HD2
  go_wp2_with fail
  refine (says_any _ _).mono ?_
  rintro e u3 ⟨b3, rfl, hb, hl, hc⟩
  have HB3a := Lib.hid (HB2.out.trans (hb.mono HB2.out.size))
  have HC3 := Lib.hid hc
  have HL3 := Lib.hid hl
  clear hb hc hl HB2
  go_wp2_with fail
  refine (wx2 _).mono ?_
  rintro e v3 ⟨rfl, hb⟩
  have HB3 := Lib.hid (HB3a.out.trans (hb.mono HB3a.out.size))
  have HD3 := Lib.hid ((hb.block b3 HL3.out).trans HC3.out)
  clear hb HC3 HL3 HB3a
  go_wp2_with fail
  refine (says1_yes _ _ _ HD3.out).mono ?_
  rintro e v3' ⟨rfl, rfl⟩
  clear HD3
  go_wp2_with fail
  refine (stops_any _ _).mono ?_
  rintro e u4 ⟨b4, rfl, hb, hl, hc⟩
  have HB4a := Lib.hid (HB3.out.trans (hb.mono HB3.out.size))
  have HC4 := Lib.hid hc
  have HL4 := Lib.hid hl
  clear hb hc hl HB3
  go_wp2_with fail
  refine (wx3 _).mono ?_
  rintro e v4 ⟨rfl, hb⟩
  have HB4 := Lib.hid (HB4a.out.trans (hb.mono HB4a.out.size))
  have HD4 := Lib.hid ((hb.block b4 HL4.out).trans HC4.out)
  clear hb HC4 HL4 HB4a
  go_wp2_with fail
  refine (stops1_yes _ _ _ HD4.out).mono ?_
  rintro e v4' ⟨rfl, rfl⟩
  clear HD4
  go_wp2_with fail
  refine (stops_any _ _).mono ?_
  rintro e u5 ⟨b5, rfl, hb, hl, hc⟩
  have HB5a := Lib.hid (HB4.out.trans (hb.mono HB4.out.size))
  have HC5 := Lib.hid hc
  have HL5 := Lib.hid hl
  clear hb hc hl HB4
  go_wp2_with fail
  refine (wx4 _).mono ?_
  rintro e v5 ⟨rfl, hb⟩
  have HB5 := Lib.hid (HB5a.out.trans (hb.mono HB5a.out.size))
  have HD5 := Lib.hid ((hb.block b5 HL5.out).trans HC5.out)
  clear hb HC5 HL5 HB5a
  go_wp2_with fail
  refine (stops1_yes _ _ _ HD5.out).mono ?_
  rintro e v5' ⟨rfl, rfl⟩
  clear HD5
  go_wp2_with fail
  refine (stops_any _ _).mono ?_
  rintro e u6 ⟨b6, rfl, hb, hl, hc⟩
  have HB6a := Lib.hid (HB5.out.trans (hb.mono HB5.out.size))
  have HC6 := Lib.hid hc
  have HL6 := Lib.hid hl
  clear hb hc hl HB5
  go_wp2_with fail
  refine (wx5 _).mono ?_
  rintro e v6 ⟨rfl, hb⟩
  have HB6 := Lib.hid (HB6a.out.trans (hb.mono HB6a.out.size))
  have HD6 := Lib.hid ((hb.block b6 HL6.out).trans HC6.out)
  clear hb HC6 HL6 HB6a
  go_wp2_with fail
  refine (stops1_yes _ _ _ HD6.out).mono ?_
  rintro e v6' ⟨rfl, rfl⟩
  clear HD6
  go_wp2_with fail
  refine (is_any _ _).mono ?_
  rintro e u7 ⟨b7, rfl, hb, hl, hc⟩
  have HB7a := Lib.hid (HB6.out.trans (hb.mono HB6.out.size))
  have HC7 := Lib.hid hc
  have HL7 := Lib.hid hl
  clear hb hc hl HB6
  go_wp2_with fail
  refine (wx6 _).mono ?_
  rintro e v7 ⟨rfl, hb⟩
  have HB7 := Lib.hid (HB7a.out.trans (hb.mono HB7a.out.size))
  have HD7 := Lib.hid ((hb.block b7 HL7.out).trans HC7.out)
  clear hb HC7 HL7 HB7a
  go_wp2_with fail
  refine (is1_yes _ _ _ HD7.out).mono ?_
  rintro e v7' ⟨rfl, rfl⟩
  clear HD7
  go_wp2_with fail
  refine (is_any _ _).mono ?_
  rintro e u8 ⟨b8, rfl, hb, hl, hc⟩
  have HB8a := Lib.hid (HB7.out.trans (hb.mono HB7.out.size))
  have HC8 := Lib.hid hc
  have HL8 := Lib.hid hl
  clear hb hc hl HB7
  go_wp2_with fail
  refine (wx7 _).mono ?_
  rintro e v8 ⟨rfl, hb⟩
  have HB8 := Lib.hid (HB8a.out.trans (hb.mono HB8a.out.size))
  have HD8 := Lib.hid ((hb.block b8 HL8.out).trans HC8.out)
  clear hb HC8 HL8 HB8a
  go_wp2_with fail
  refine (is1_yes _ _ _ HD8.out).mono ?_
  rintro e v8' ⟨rfl, rfl⟩
  clear HD8
  go_wp2_with fail
  refine (fails_any _ _).mono ?_
  rintro e u9 ⟨b9, rfl, hb, hl, hc⟩
  have HB9a := Lib.hid (HB8.out.trans (hb.mono HB8.out.size))
  have HC9 := Lib.hid hc
  have HL9 := Lib.hid hl
  clear hb hc hl HB8
  go_wp2_with fail
  refine (wx8 _).mono ?_
  rintro e v9 ⟨rfl, hb⟩
  have HB9 := Lib.hid (HB9a.out.trans (hb.mono HB9a.out.size))
  have HD9 := Lib.hid ((hb.block b9 HL9.out).trans HC9.out)
  clear hb HC9 HL9 HB9a
  go_wp2_with fail
  refine (fails1_yes _ _ _ HD9.out).mono ?_
  rintro e v9' ⟨rfl, rfl⟩
  clear HD9
  go_wp2_with fail
  refine (is_any _ _).mono ?_
  rintro e u10 ⟨b10, rfl, hb, hl, hc⟩
  have HB10a := Lib.hid (HB9.out.trans (hb.mono HB9.out.size))
  have HC10 := Lib.hid hc
  have HL10 := Lib.hid hl
  clear hb hc hl HB9
  go_wp2_with fail
  refine (wx9 _).mono ?_
  rintro e v10 ⟨rfl, hb⟩
  have HB10 := Lib.hid (HB10a.out.trans (hb.mono HB10a.out.size))
  have HD10 := Lib.hid ((hb.block b10 HL10.out).trans HC10.out)
  clear hb HC10 HL10 HB10a
  go_wp2_with fail
  refine (is1_yes _ _ _ HD10.out).mono ?_
  rintro e v10' ⟨rfl, rfl⟩
  clear HD10
  go_wp2_with fail
  refine (fails_any _ _).mono ?_
  rintro e u11 ⟨b11, rfl, hb, hl, hc⟩
  have HB11a := Lib.hid (HB10.out.trans (hb.mono HB10.out.size))
  have HC11 := Lib.hid hc
  have HL11 := Lib.hid hl
  clear hb hc hl HB10
  go_wp2_with fail
  refine (wx10 _).mono ?_
  rintro e v11 ⟨rfl, hb⟩
  have HB11 := Lib.hid (HB11a.out.trans (hb.mono HB11a.out.size))
  have HD11 := Lib.hid ((hb.block b11 HL11.out).trans HC11.out)
  clear hb HC11 HL11 HB11a
  go_wp2_with fail
  refine (fails1_yes _ _ _ HD11.out).mono ?_
  rintro e v11' ⟨rfl, rfl⟩
  clear HD11
  go_wp2_with fail
  refine (fails_any _ _).mono ?_
  rintro e u12 ⟨b12, rfl, hb, hl, hc⟩
  have HB12a := Lib.hid (HB11.out.trans (hb.mono HB11.out.size))
  have HC12 := Lib.hid hc
  have HL12 := Lib.hid hl
  clear hb hc hl HB11
  go_wp2_with fail
  refine (wx11 _).mono ?_
  rintro e v12 ⟨rfl, hb⟩
  have HB12 := Lib.hid (HB12a.out.trans (hb.mono HB12a.out.size))
  have HD12 := Lib.hid ((hb.block b12 HL12.out).trans HC12.out)
  clear hb HC12 HL12 HB12a
  go_wp2_with fail
  refine (fails1_yes _ _ _ HD12.out).mono ?_
  rintro e v12' ⟨rfl, rfl⟩
  clear HD12
  go_wp2_with fail
  refine (is_any _ _).mono ?_
  rintro e u13 ⟨b13, rfl, hb, hl, hc⟩
  have HB13a := Lib.hid (HB12.out.trans (hb.mono HB12.out.size))
  have HC13 := Lib.hid hc
  have HL13 := Lib.hid hl
  clear hb hc hl HB12
  go_wp2_with fail
  refine (wx12 _).mono ?_
  rintro e v13 ⟨rfl, hb⟩
  have HB13 := Lib.hid (HB13a.out.trans (hb.mono HB13a.out.size))
  have HD13 := Lib.hid ((hb.block b13 HL13.out).trans HC13.out)
  clear hb HC13 HL13 HB13a
  go_wp2_with fail
  refine (is1_yes _ _ _ HD13.out).mono ?_
  rintro e v13' ⟨rfl, rfl⟩
  clear HD13
  go_wp2_with fail
  refine (is_any _ _).mono ?_
  rintro e u14 ⟨b14, rfl, hb, hl, hc⟩
  have HB14a := Lib.hid (HB13.out.trans (hb.mono HB13.out.size))
  have HC14 := Lib.hid hc
  have HL14 := Lib.hid hl
  clear hb hc hl HB13
  go_wp2_with fail
  refine (wx13 _).mono ?_
  rintro e v14 ⟨rfl, hb⟩
  have HB14 := Lib.hid (HB14a.out.trans (hb.mono HB14a.out.size))
  have HD14 := Lib.hid ((hb.block b14 HL14.out).trans HC14.out)
  clear hb HC14 HL14 HB14a
  go_wp2_with fail
  refine (is1_yes _ _ _ HD14.out).mono ?_
  rintro e v14' ⟨rfl, rfl⟩
  clear HD14
  go_wp2_with fail
  refine (fails_any _ _).mono ?_
  rintro e u15 ⟨b15, rfl, hb, hl, hc⟩
  have HB15a := Lib.hid (HB14.out.trans (hb.mono HB14.out.size))
  have HC15 := Lib.hid hc
  have HL15 := Lib.hid hl
  clear hb hc hl HB14
  go_wp2_with fail
  refine (wx14 _).mono ?_
  rintro e v15 ⟨rfl, hb⟩
  have HB15 := Lib.hid (HB15a.out.trans (hb.mono HB15a.out.size))
  have HD15 := Lib.hid ((hb.block b15 HL15.out).trans HC15.out)
  clear hb HC15 HL15 HB15a
  go_wp2_with fail
  refine (fails1_yes _ _ _ HD15.out).mono ?_
  rintro e v15' ⟨rfl, rfl⟩
  clear HD15
  go_wp2_with fail
  refine (is_any _ _).mono ?_
  rintro e u16 ⟨b16, rfl, hb, hl, hc⟩
  have HB16a := Lib.hid (HB15.out.trans (hb.mono HB15.out.size))
  have HC16 := Lib.hid hc
  have HL16 := Lib.hid hl
  clear hb hc hl HB15
  go_wp2_with fail
  refine (wx15 _).mono ?_
  rintro e v16 ⟨rfl, hb⟩
  have HB16 := Lib.hid (HB16a.out.trans (hb.mono HB16a.out.size))
  have HD16 := Lib.hid ((hb.block b16 HL16.out).trans HC16.out)
  clear hb HC16 HL16 HB16a
  go_wp2_with fail
  refine (is1_yes _ _ _ HD16.out).mono ?_
  rintro e v16' ⟨rfl, rfl⟩
  clear HD16
  go_wp2_with fail
  refine (is_any _ _).mono ?_
  rintro e u17 ⟨b17, rfl, hb, hl, hc⟩
  have HB17a := Lib.hid (HB16.out.trans (hb.mono HB16.out.size))
  have HC17 := Lib.hid hc
  have HL17 := Lib.hid hl
  clear hb hc hl HB16
  go_wp2_with fail
  refine (wx16 _).mono ?_
  rintro e v17 ⟨rfl, hb⟩
  have HB17 := Lib.hid (HB17a.out.trans (hb.mono HB17a.out.size))
  have HD17 := Lib.hid ((hb.block b17 HL17.out).trans HC17.out)
  clear hb HC17 HL17 HB17a
  go_wp2_with fail
  refine (is1_yes _ _ _ HD17.out).mono ?_
  rintro e v17' ⟨rfl, rfl⟩
  clear HD17
  go_wp2_with fail
  refine (is_any _ _).mono ?_
  rintro e u18 ⟨b18, rfl, hb, hl, hc⟩
  have HB18a := Lib.hid (HB17.out.trans (hb.mono HB17.out.size))
  have HC18 := Lib.hid hc
  have HL18 := Lib.hid hl
  clear hb hc hl HB17
  go_wp2_with fail
  refine (wx17 _).mono ?_
  rintro e v18 ⟨rfl, hb⟩
  have HB18 := Lib.hid (HB18a.out.trans (hb.mono HB18a.out.size))
  have HD18 := Lib.hid ((hb.block b18 HL18.out).trans HC18.out)
  clear hb HC18 HL18 HB18a
  go_wp2_with fail
  refine (is1_yes _ _ _ HD18.out).mono ?_
  rintro e v18' ⟨rfl, rfl⟩
  clear HD18
  go_wp2_with fail
  go_ret
  exact ⟨rfl, HB18.out⟩
end Go.Proofs.YtgjfhamophknfaaDoor
