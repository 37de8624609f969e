/- Law OctetParts: the walk. -/
import Derived.Test.YtgjfhamophknfaaDoorC0
namespace Go.Proofs.YtgjfhamophknfaaDoor
open Go.RowKit

set_option maxRecDepth 100000 in
set_option maxHeartbeats 4000000 in
theorem parts_walk (S : ByteArray) (a n f k : Nat) (ha : a < 256) (hn : n < 256) (hf : f < 256) (hk : k < 256) (hS : S.size ≤ 140737488355328) (w : World) :
    Calls Tryd.prog 3 #[.string S, .int .u8 a, .int .u8 n, .int .u8 f, .int .u8 k] w fun e w' => e = .returned (.bool true) ∧ Below w.heap.size w w' := by
  obtain ⟨q, hq⟩ : ∃ q, S.extract 0 (min (S.size : Int) 300).toNat = q := ⟨_, rfl⟩
  have hqs : q.size ≤ 300 := by rw [← hq, ByteArray.size_extract]; omega
  obtain ⟨A, hA⟩ : ∃ A, a % (q.size + 1) = A := ⟨_, rfl⟩
  have hA1 : A ≤ q.size := by have := Nat.mod_lt a (show 0 < q.size + 1 by omega); omega
  have hA2 : Int.tmod (a : Int) ((q.size : Int) + 1) = A := by rw [← hA]; exact tmod_nat a (q.size + 1)
  obtain ⟨M, hM⟩ : ∃ M, n % (q.size - A + 1) = M := ⟨_, rfl⟩
  have hM1 : M ≤ q.size - A := by have := Nat.mod_lt n (show 0 < q.size - A + 1 by omega); omega
  have hM2 : Int.tmod (n : Int) ((q.size : Int) - A + 1) = M := by rw [← hM]; have := tmod_nat n (q.size - A + 1); rwa [show ((q.size - A + 1 : Nat) : Int) = (q.size : Int) - A + 1 by omega] at this
  obtain ⟨B, hB⟩ : ∃ B, f % (M + 1) = B := ⟨_, rfl⟩
  have hB1 : B ≤ M := by have := Nat.mod_lt f (show 0 < M + 1 by omega); omega
  have hB2 : Int.tmod (f : Int) ((M : Int) + 1) = B := by rw [← hB]; exact tmod_nat f (M + 1)
  have hqz : q.size ≤ 65536 := by omega
  obtain ⟨p, hp⟩ : ∃ p, q.extract A (A + M) = p := ⟨_, rfl⟩
  have hps : p.size = M := by rw [← hp, ByteArray.size_extract]; omega
  obtain ⟨r, hr⟩ : ∃ r, p.extract B M = r := ⟨_, rfl⟩
  have hr2 : q.extract (A + B) (A + M) = r := by rw [← hr, ← hp, extract_in _ _ _ _ hB1]
  have HP1 : Hid (∀ W : World, Calls Tryd.prog 8 #[.string q, .int .i64 A, .int .i64 M] W fun e w' => e = .returned (.tuple #[.string p, .int .i64 0]) ∧ W = w') := fun W => by
    have := part_any q A M W
    rwa [partE_in q A M hqz (by omega), partS_in q A M hqz (by omega), hp] at this
  have HP2 : Hid (∀ W : World, Calls Tryd.prog 8 #[.string p, .int .i64 B, .int .i64 ((M : Int) - B)] W fun e w' => e = .returned (.tuple #[.string r, .int .i64 0]) ∧ W = w') := fun W => by
    have := part_any p B (M - B : Nat) W
    rwa [partE_in p B (M - B) (by omega) (by omega), partS_in p B (M - B) (by omega) (by omega), show B + (M - B) = M by omega, hr, Int.ofNat_sub hB1] at this
  have HP3 : Hid (∀ W : World, Calls Tryd.prog 8 #[.string q, .int .i64 ((A : Int) + B), .int .i64 ((M : Int) - B)] W fun e w' => e = .returned (.tuple #[.string r, .int .i64 0]) ∧ W = w') := fun W => by
    have := part_any q (A + B : Nat) (M - B : Nat) W
    rwa [partE_in q (A + B) (M - B) hqz (by omega), partS_in q (A + B) (M - B) hqz (by omega), show A + B + (M - B) = A + M by omega, hr2, Int.ofNat_sub hB1, Int.natCast_add] at this
  obtain ⟨sz, hsz⟩ : ∃ sz, k % 64 + 1 = sz := ⟨_, rfl⟩
  have hs1 : 1 ≤ sz := by omega
  have hs2 : sz ≤ 64 := by omega
  have HS3 : Hid (1 + (k : Int) % 64 = (sz : Int)) := Lib.hid (by omega)
  obtain ⟨z, hz0⟩ : ∃ z, padZ q.size sz = z := ⟨_, rfl⟩
  have hz1 : z < sz := hz0 ▸ padZ_lt q.size sz (by omega)
  have hz2 : (q.size + z) % sz = 0 := hz0 ▸ padZ_whole q.size sz (by omega)
  obtain ⟨t, ht⟩ : ∃ t, q ++ zb z = t := ⟨_, rfl⟩
  have hts : t.size = q.size + z := by rw [← ht, ByteArray.size_append, zb_size]
  have htm : (t.size : Int) % (sz : Int) = 0 := by rw [← Int.natCast_emod, hts, hz2]; rfl
  have htl : (q.size : Int) ≤ t.size := by omega
  have htd : (t.size : Int) - q.size < sz := by omega
  have htc : t.extract q.size t.size = zb z := by rw [← ht]; exact extract_cat _ _
  have HPad : Hid (∀ W : World, Calls Tryd.prog 13 #[.string q, .int .i64 sz] W fun e w' => e = .returned (.tuple #[.string t, .int .i64 0]) ∧ Below W.heap.size W w') := fun W => by
    have := pad_any q sz W
    unfold padS padE at this
    rwa [if_neg (by omega), if_neg (by omega), if_neg (by rw [Int.toNat_natCast]; omega), if_neg (by omega), if_neg (by omega), if_neg (by rw [Int.toNat_natCast]; omega), Int.toNat_natCast, hz0, ht] at this
  have HPre : Hid (∀ W : World, Calls Tryd.prog 14 #[.string t, .string q] W fun e w' => e = .returned (.bool true) ∧ w' = W) := fun W => by
    have := Tryd.strings_HasPrefix t q W
    rwa [← ht, prefix_cat, ht] at this
  have HTr : Hid (∀ W : World, Calls Tryd.prog 15 #[.string (zb z), .string ⟨#[0]⟩] W fun e w' => e = .returned (.string ⟨#[]⟩) ∧ Below W.heap.size W w') := fun W => by
    have := trim0_any (zb z) (by rw [zb_size]; omega) W
    rwa [trim0_zb] at this
  generalize zb z = zz at *
  clear hA hM hB hp hr hr2 hsz hz0 hz2 ht hts
  go_enter Tryd.func3, Tryd.ntmps3
  go_wp2_with fail
  refine (works_any _).mono ?_
  rintro e w1 ⟨rfl, hb⟩
  have HB1 := Lib.hid hb
  clear hb
  go_wp2_with fail
  refine (HP1.out _).mono ?_
  rintro e w2 ⟨rfl, rfl⟩
  go_wp2_with fail
  refine (HP2.out _).mono ?_
  rintro e w2 ⟨rfl, rfl⟩
  go_wp2_with fail
  refine (is_any _ _).mono ?_
  rintro e w2 ⟨b2, rfl, hb, hl, hc⟩
  have HB2 := Lib.hid (HB1.out.trans (hb.mono HB1.out.size))
  have HC := Lib.hid hc
  clear hb hl hc
  go_wp2_with fail
  refine (HP3.out _).mono ?_
  rintro e w3 ⟨rfl, rfl⟩
  go_wp2_with fail
  refine (is1_yes _ _ _ HC.out).mono ?_
  rintro e w3 ⟨rfl, rfl⟩
  clear HC HB1
  by_cases h4 : 4 ≤ M
  · have h4' : (4 : Int) ≤ (M : Int) := by omega
    have hh := halves p (by omega) (by omega)
    have HU1 : Hid (∀ W : World, _) := fun (W : World) => u16_any p 0 W
    have HU2 : Hid (∀ W : World, _) := fun (W : World) => u16_any p 2 W
    have HU3 : Hid (∀ W : World, _) := fun (W : World) => u32_any p 0 W
    have l1 := numS_lt p 0 2
    have l2 := numS_lt p 2 2
    rw [show partE p 0 2 = 0 from partE_in p 0 2 (by omega) (by omega)] at HU1
    rw [show partE p 2 2 = 0 from partE_in p 2 2 (by omega) (by omega)] at HU2
    rw [show partE p 0 4 = 0 from partE_in p 0 4 (by omega) (by omega), hh] at HU3
    generalize numS p 0 2 = hi at *
    generalize numS p 2 2 = lo at *
    have l1' : hi < 65536 := l1
    have l2' : lo < 65536 := l2
    obtain ⟨v, hv⟩ : ∃ v, hi * 65536 + lo = v := ⟨_, rfl⟩
    rw [hv] at HU3
    have HW : Hid (wrap64 (wrap64 ((hi : Int) * 65536) + lo) = v) := Lib.hid (by
      have h1 : wrap64 ((hi : Int) * 65536) = (hi : Int) * 65536 := IntWalk.wrap64_in _ (by omega)
      rw [h1]
      have h2 : wrap64 ((hi : Int) * 65536 + lo) = (hi : Int) * 65536 + lo := IntWalk.wrap64_in _ (by omega)
      rw [h2]; omega)
    clear hh l1 l2 hv l1' l2'
    go_wp2_with fail
    refine (HU1.out _).mono ?_
    rintro e w4 ⟨rfl, hb⟩
    have HB4 := Lib.hid (HB2.out.trans (hb.mono HB2.out.size))
    clear hb HB2
    go_wp2_with fail
    refine (HU2.out _).mono ?_
    rintro e w5 ⟨rfl, hb⟩
    have HB5 := Lib.hid (HB4.out.trans (hb.mono HB4.out.size))
    clear hb HB4
    go_wp2_with fail
    rw [HW.out]
    refine (says_any _ _).mono ?_
    rintro e w5b ⟨b5, rfl, hb, hl, hc⟩
    have HB5b := Lib.hid (HB5.out.trans (hb.mono HB5.out.size))
    have HC := Lib.hid hc
    have HL := Lib.hid hl
    clear hb hl hc HB5
    go_wp2_with fail
    refine (HU3.out _).mono ?_
    rintro e w6 ⟨rfl, hb⟩
    have HBY := Lib.hid (HB5b.out.trans (hb.mono HB5b.out.size))
    have HD := Lib.hid ((hb.block b5 HL.out).trans HC.out)
    clear hb HC HL HB5b
    go_wp2_with fail
    refine (says1_yes _ _ _ HD.out).mono ?_
    rintro e w6b ⟨rfl, rfl⟩
    clear HD
    go_wp2_with fail
    rw [HS3.out]
    refine (HPad.out _).mono ?_
    rintro e w7 ⟨rfl, hb⟩
    have HBZ := Lib.hid (HBY.out.trans (hb.mono HBY.out.size))
    clear hb HBY
    go_wp2_with fail
    refine (HPre.out _).mono ?_
    rintro e w8 ⟨rfl, rfl⟩
    go_wp2_with fail
    refine (HTr.out _).mono ?_
    rintro e w8 ⟨rfl, hb⟩
    have HBW := Lib.hid (HBZ.out.trans (hb.mono HBZ.out.size))
    clear hb HBZ
    go_wp2_with fail
    go_ret
    exact ⟨rfl, HBW.out⟩
  · have h4' : ¬ (4 : Int) ≤ (M : Int) := by omega
    have HBY := HB2
    clear HB2
    go_wp2_with fail
    rw [HS3.out]
    refine (HPad.out _).mono ?_
    rintro e w7 ⟨rfl, hb⟩
    have HBZ := Lib.hid (HBY.out.trans (hb.mono HBY.out.size))
    clear hb HBY
    go_wp2_with fail
    refine (HPre.out _).mono ?_
    rintro e w8 ⟨rfl, rfl⟩
    go_wp2_with fail
    refine (HTr.out _).mono ?_
    rintro e w8 ⟨rfl, hb⟩
    have HBW := Lib.hid (HBZ.out.trans (hb.mono HBZ.out.size))
    clear hb HBZ
    go_wp2_with fail
    go_ret
    exact ⟨rfl, HBW.out⟩
end Go.Proofs.YtgjfhamophknfaaDoor
