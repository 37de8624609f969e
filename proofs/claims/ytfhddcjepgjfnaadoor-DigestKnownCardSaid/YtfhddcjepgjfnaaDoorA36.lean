/- The walk of the statement DigestKnown. -/
import Derived.Test.YtfhddcjepgjfnaaDoorA35
namespace Go.Proofs.YtfhddcjepgjfnaaDoor
open Go.RowKit Md

set_option maxRecDepth 100000 in
set_option maxHeartbeats 4000000 in
theorem known_any (w : World) (hK : HasK w) :
    Calls Tryd.prog 8 #[] w fun e w' => e = .returned (.bool true) ∧ Below w.heap.size w w' := by
  have HK := Lib.hid hK
  have hp := hK.pos
  have I0 := Lib.hid (Iv.start w)
  clear hK
  go_enter Tryd.func8, Tryd.ntmps8
  go_wp2_with (fail)
  refine (works_any _ (HK.out.below I0.out.below hp)).mono ?_
  rintro e w1 ⟨rfl, hb1⟩
  have I1 := Lib.hid (Iv.call I0.out hb1)
  clear hb1
  go_wp2_with (fail)
  refine (is_yes _ _ (by decide) kn_0 _ (HK.out.below I1.out.below hp)).mono ?_
  rintro e w2 ⟨rfl, hb2⟩
  have I2 := Lib.hid (Iv.call I1.out hb2)
  clear hb2
  go_wp2_with (fail)
  refine (is_yes _ _ (by decide) kn_1 _ (HK.out.below I2.out.below hp)).mono ?_
  rintro e w3 ⟨rfl, hb3⟩
  have I3 := Lib.hid (Iv.call I2.out hb3)
  clear hb3
  go_wp2_with (fail)
  refine (rep8_any _).mono ?_
  rintro e w4 ⟨rfl, hb4⟩
  have I4 := Lib.hid (Iv.call I3.out hb4)
  clear hb4
  obtain ⟨s8, hs8, his⟩ : ∃ s8 : ByteArray, ⟨(Lib.repeatL (⟨#[49, 50, 51, 52, 53, 54, 55, 56, 57, 48]⟩ : ByteArray).data.toList 8).toArray⟩ = s8 ∧ ∀ W, HasK W → Calls Tryd.prog 28 #[.string s8, .string ⟨#[53, 55, 101, 100, 102, 52, 97, 50, 50, 98, 101, 51, 99, 57, 53, 53, 97, 99, 52, 57, 100, 97, 50, 101, 50, 49, 48, 55, 98, 54, 55, 97]⟩] W fun e w' => e = .returned (.bool true) ∧ Below W.heap.size W w' := ⟨_, rfl, fun W h => is_yes _ _ kn_2s kn_2 W h⟩
  rw [hs8]
  have HIS := Lib.hid his
  clear hs8 his
  go_wp2_with (fail)
  refine (HIS.out _ (HK.out.below I4.out.below hp)).mono ?_
  rintro e w5 ⟨rfl, hb5⟩
  have I5 := Lib.hid (Iv.call I4.out hb5)
  clear hb5
  go_wp2_with (fail)
  refine (full_any _).mono ?_
  rintro e w6 ⟨F, rfl, hF, hb6⟩
  have I6 := Lib.hid (Iv.call I5.out hb6)
  clear hb6
  have HF := Lib.hid hF
  have hF1 : F.size ≤ 65536 := by omega
  have hF2 : 65536 ≤ F.size := by omega
  have hsum := sum_short F hF1
  have hml := md5_len (asc F.data.toList)
  generalize md5 (asc F.data.toList) = m1 at *
  have HSUM := Lib.hid hsum
  have HM1 := Lib.hid hml
  have hFa : ∀ W, (Op.stringOp .add F ⟨#[97]⟩).run Tryd.prog W = .ok (.string (F ++ ⟨#[97]⟩)) W := fun W => run_string_add W _ _ (by omega) (by decide)
  have hFas : 65536 < (F ++ ⟨#[97]⟩).size := by rw [ByteArray.size_append]; have e1 : (⟨#[97]⟩ : ByteArray).size = 1 := rfl; omega
  obtain ⟨Fa, hFae⟩ : ∃ Fa, F ++ (⟨#[97]⟩ : ByteArray) = Fa := ⟨_, rfl⟩
  rw [hFae] at hFa hFas
  have hFF : ∀ W, (Op.stringOp .add F F).run Tryd.prog W = .ok (.string (F ++ F)) W := fun W => run_string_add W _ _ (by omega) (by omega)
  have hFFs : (F ++ F).size ≤ 140737488355328 := by rw [ByteArray.size_append]; omega
  obtain ⟨FF, hFFe⟩ : ∃ FF, F ++ F = FF := ⟨_, rfl⟩
  rw [hFFe] at hFF hFFs
  obtain ⟨td, htd, hfull⟩ := known_full F HF.out
  have HFULL := Lib.hid hfull
  obtain ⟨m2, hm2, hdone⟩ := known_done td htd
  have HDONE := Lib.hid hdone
  have HM2 := Lib.hid hm2
  have HTD := Lib.hid htd
  clear hF hsum hml hFae hFFe htd hfull hm2 hdone hF1 hF2
  go_wp2_with (fail)
  refine (HSUM.out _ (HK.out.below I6.out.below hp)).mono ?_
  rintro e w7 ⟨rfl, hb7⟩
  have I7 := Lib.hid (Iv.call I6.out hb7)
  clear hb7
  go_wp2_with (((with_reducible refine wpList_store_new rfl 28 _ _ rfl _ (ob m1) ?_ ?_ 16 ?_ ?_ ?_ ?_ ?_); (next => rfl); (next => rfl); (next => kernel_rfl); (next => rfl); (next => exact ob_size16 _ HM1.out); (next => exact ob_one _)))
  refine (sum_long Fa hFas _).mono ?_
  rintro e w8 ⟨rfl, hb8⟩
  have I8 := Lib.hid (Iv.call (I7.out.forget _) hb8)
  clear hb8
  go_wp2_with (((with_reducible refine wpList_store_new rfl 28 _ _ rfl _ (z16) ?_ ?_ 16 ?_ ?_ ?_ ?_ ?_); (next => rfl); (next => rfl); (next => kernel_rfl); (next => rfl); (next => rfl); (next => rfl)))
  refine (new_any _).mono ?_
  rintro e w9 ⟨rfl, hb9⟩
  have I9 := Lib.hid (Iv.call (I8.out.new z16 28) hb9)
  clear hb9
  go_wp2_with (fail)
  refine (HFULL.out _ (HK.out.below I9.out.below hp)).mono ?_
  rintro e w10 ⟨rfl, hb10⟩
  have I10 := Lib.hid (Iv.call I9.out hb10)
  clear hb10
  go_wp2_with (fail)
  refine (known_same td HTD.out _ (HK.out.below (I10.out.new (fd td) 41).below hp)).mono ?_
  rintro e w11 ⟨rfl, hb11⟩
  have I11 := Lib.hid (Iv.call (I10.out.new (fd td) 41) hb11)
  clear hb11
  have ld := Lib.hid (I11.out.new (fd td) 41)
  go_wp2_with (((with_reducible refine wpList_load_whole rfl 41 _ rfl (w10.heap.size) ?_ 41 (fd td) _ (ld.out.get 1 rfl) Tryd.underlying41 ?_ 6 ?_ ?_ ?_); (next => rfl); (next => rfl); (next => kernel_rfl); (next => rfl)))
  refine (known_over td HTD.out _ (HK.out.below (I11.out.new (fd td) 41).below hp)).mono ?_
  rintro e w12 ⟨rfl, hb12⟩
  have I12 := Lib.hid (Iv.call (I11.out.new (fd td) 41) hb12)
  clear hb12
  have ld2 := Lib.hid (I12.out.forget (.cells zdv 41))
  go_wp2_with (((with_reducible refine wpList_load_whole rfl 41 _ rfl (w10.heap.size) ?_ 41 (fd td) _ (ld2.out.get 1 rfl) Tryd.underlying41 ?_ 6 ?_ ?_ ?_); (next => rfl); (next => rfl); (next => kernel_rfl); (next => rfl)))
  refine (HDONE.out _ (HK.out.below (I12.out.forget _).below hp)).mono ?_
  rintro e w13 ⟨rfl, hb13⟩
  have I13 := Lib.hid (Iv.call (I12.out.forget _) hb13)
  clear hb13
  have ld3 := Lib.hid (I13.out.forget (.cells (ob m2) 28))
  have hq1 := eq28z
  have hq2 := eq41 td.a td.b td.c td.d 65536 ⟨#[]⟩
  have d4 := ld3.out.cell 1 rfl 4 rfl
  have d5 := ld3.out.cell 1 rfl 5 rfl
  go_wp2_with (first | ((with_reducible refine wpList_store_new rfl 28 _ _ rfl _ (ob m2) ?_ ?_ 16 ?_ ?_ ?_ ?_ ?_); (next => rfl); (next => rfl); (next => kernel_rfl); (next => rfl); (next => exact ob_size16 _ HM2.out); (next => exact ob_one _)) | ((with_reducible refine wpList_load_wanted ?_ 28 _ rfl (w8.heap.size) ?_ 28 (z16) _ (ld3.out.get 2 rfl) Tryd.underlying28 ?_ 16 ?_ ?_ ?_); (next => rfl); (next => rfl); (next => rfl); (next => kernel_rfl); (next => rfl)) | ((with_reducible refine wpList_load_wanted ?_ 41 _ rfl (w11.heap.size) ?_ 41 (fd td) _ (ld3.out.get 0 rfl) Tryd.underlying41 ?_ 6 ?_ ?_ ?_); (next => rfl); (next => rfl); (next => rfl); (next => kernel_rfl); (next => rfl)) | ((with_reducible refine wpList_load_wanted ?_ 41 _ rfl (w10.heap.size) ?_ 41 (fd td) _ (ld3.out.get 1 rfl) Tryd.underlying41 ?_ 6 ?_ ?_ ?_); (next => rfl); (next => rfl); (next => rfl); (next => kernel_rfl); (next => rfl)))
  refine (new_any _).mono ?_
  rintro e w14 ⟨rfl, hb14⟩
  have I14 := Lib.hid (Iv.call (I13.out.forget _) hb14)
  clear hb14
  clear hq1 hq2 d4 d5
  have I14 := Lib.hid (I14.out.sub (M := []) (fun x hx => by cases hx))
  have ld4 := Lib.hid (I14.out.new (bd 0 ⟨#[]⟩) 41)
  have hq3 := eq41 1732584193 4023233417 2562383102 271733878 0 ⟨#[]⟩
  go_wp2_with (((with_reducible refine wpList_load_wanted ?_ 41 _ rfl (w14.heap.size) ?_ 41 (bd 0 ⟨#[]⟩) _ (ld4.out.get 0 rfl) Tryd.underlying41 ?_ 6 ?_ ?_ ?_); (next => rfl); (next => rfl); (next => rfl); (next => kernel_rfl); (next => rfl)))
  refine (begin_check _).mono ?_
  rintro e w15 ⟨rfl, hb15⟩
  have I15 := Lib.hid (Iv.call (I14.out.new (bd 0 ⟨#[]⟩) 41) hb15)
  clear hb15
  clear hq3
  go_wp2_with (fail)
  refine (small_any 97 64 (by omega) _).mono ?_
  rintro e w16 ⟨rfl, hb16⟩
  have I16 := Lib.hid (Iv.call I15.out hb16)
  clear hb16
  obtain ⟨G, hGe⟩ : ∃ G : ByteArray, ⟨(Lib.repeatL [97] 64).toArray⟩ = G := ⟨_, rfl⟩
  have hG : G.size = 64 := by rw [← hGe]; decide +kernel
  rw [hGe]
  have HG := Lib.hid hG
  clear hGe hG
  have I16 := Lib.hid (I16.out.sub (M := []) (fun x hx => by cases hx))
  go_wp2_with fail
  go_loopw [135] (fun x W => ∃ k : Nat, k ≤ 6 ∧ x = .int .i64 k ∧ Iv w W []) (fun x _ => 6 - (intOf x).toNat)
  case atStart => exact ⟨0, by omega, rfl, I16.out⟩
  case round =>
    obtain ⟨k, hk, rfl, hI⟩ := hrel
    have J0 := Lib.hid hI
    clear hI
    by_cases hlt : k < 6
    · obtain ⟨a, b, c, d, n, r, hv, hix⟩ := bad_at G HG.out k hlt
      have HV := Lib.hid hv
      clear hv
      go_wp2_with fail
      refine (xmore_no a b c d n r FF HV.out _).mono ?_
      rintro e v1 ⟨rfl, hb1⟩
      have J1 := Lib.hid (Iv.call (J0.out.new (#[.int .i64 a, .int .i64 b, .int .i64 c, .int .i64 d, .int .i64 n, .string r]) 41) hb1)
      have M1 := Lib.hid (J1.out.new zdv 41)
      clear hb1
      go_wp2_with ((with_reducible refine wpList_load_whole rfl 41 _ rfl (wr.heap.size) ?_ 41 (#[.int .i64 a, .int .i64 b, .int .i64 c, .int .i64 d, .int .i64 n, .string r]) _ (M1.out.get 1 rfl) Tryd.underlying41 ?_ 6 ?_ ?_ ?_); (next => rfl); (next => rfl); (next => kernel_rfl); (next => rfl))
      refine (xdone_no a b c d n r HV.out _).mono ?_
      rintro e v2 ⟨rfl, hb2⟩
      have J2 := Lib.hid (Iv.call M1.out hb2)
      have M2 := Lib.hid (J2.out.new z16 28)
      clear hb2
      go_wp2_with (first | ((with_reducible refine wpList_store_new rfl 28 _ _ rfl _ (z16) ?_ ?_ 16 ?_ ?_ ?_ ?_ ?_); (next => rfl); (next => rfl); (next => kernel_rfl); (next => rfl); (next => rfl); (next => rfl)) | ((with_reducible refine wpList_load_whole rfl 41 _ rfl (wr.heap.size) ?_ 41 (#[.int .i64 a, .int .i64 b, .int .i64 c, .int .i64 d, .int .i64 n, .string r]) _ (M2.out.get 2 rfl) Tryd.underlying41 ?_ 6 ?_ ?_ ?_); (next => rfl); (next => rfl); (next => kernel_rfl); (next => rfl)))
      refine (check_no a b c d n r HV.out _).mono ?_
      rintro e v3 ⟨rfl, hb3⟩
      have J3 := Lib.hid (Iv.call M2.out hb3)
      have hq1 := eq28z
      have hq2 := eq41 0 0 0 0 0 ⟨#[]⟩
      clear hb3
      go_wp2_with (first | ((with_reducible refine wpList_load_wanted ?_ 41 _ rfl (v1.heap.size) ?_ 41 (zdv) _ (J3.out.get 1 rfl) Tryd.underlying41 ?_ 6 ?_ ?_ ?_); (next => rfl); (next => rfl); (next => rfl); (next => kernel_rfl); (next => rfl)) | ((with_reducible refine wpList_load_wanted ?_ 28 _ rfl (v2.heap.size) ?_ 28 (z16) _ (J3.out.get 0 rfl) Tryd.underlying28 ?_ 16 ?_ ?_ ?_); (next => rfl); (next => rfl); (next => rfl); (next => kernel_rfl); (next => rfl)))
      go_roundw
      case rel => exact ⟨k + 1, by omega, by go_num, J3.out.sub (fun x hx => by cases hx)⟩
      case measure => simp [intOf]; omega
    · obtain rfl : k = 6 := by omega
      clear hlt hk
      go_wp2_with fail
      have hu := fun W => unhex_any ⟨#[102, 102, 102, 102, 102, 102, 102, 102, 102, 102, 102, 102, 102, 102, 102, 102, 102, 102, 102, 102, 102, 102, 102, 102, 102, 102, 102, 102, 102, 102, 48, 48]⟩ (by decide) W
      rw [known_ff] at hu
      refine (hu _).mono ?_
      rintro e u1 ⟨rfl, hb1⟩
      have J1 := Lib.hid (Iv.new (Iv.call J0.out hb1) (ob ffs) 28)
      clear hb1 hu
      go_wp2_with ((with_reducible refine wpList_store_new rfl 28 _ _ rfl _ (ob ffs) ?_ ?_ 16 ?_ ?_ ?_ ?_ ?_); (next => rfl); (next => rfl); (next => kernel_rfl); (next => rfl); (next => rfl); (next => exact ob_one _))
      refine (works_any _ (HK.out.below J1.out.below hp)).mono ?_
      rintro e u2 ⟨rfl, hb2⟩
      have J2 := Lib.hid (Iv.call J1.out hb2)
      have d14 : u2.cell? ⟨u1.heap.size, 14, none⟩ = some (.int .u8 255) := J2.out.cell 0 rfl 14 rfl
      have d15 : u2.cell? ⟨u1.heap.size, 15, none⟩ = some (.int .u8 0) := J2.out.cell 0 rfl 15 rfl
      clear hb2
      go_wp2_with fail
      refine (fails_yes _ (by decide) bad_e _).mono ?_
      rintro e u3 ⟨rfl, hb3⟩
      have J3 := Lib.hid (Iv.call J2.out hb3)
      clear hb3 d14 d15
      go_wp2_with fail
      refine (small_any 48 33 (by omega) _).mono ?_
      rintro e u4 ⟨rfl, hb4⟩
      have J4 := Lib.hid (Iv.call J3.out hb4)
      clear hb4
      go_wp2_with fail
      refine (fails_yes _ (by decide +kernel) bad_33 _).mono ?_
      rintro e u5 ⟨rfl, hb5⟩
      have J5 := Lib.hid (Iv.call J4.out hb5)
      clear hb5
      go_wp2_with fail
      refine (small_any 103 32 (by omega) _).mono ?_
      rintro e u6 ⟨rfl, hb6⟩
      have J6 := Lib.hid (Iv.call J5.out hb6)
      clear hb6
      go_wp2_with fail
      refine (fails_yes _ (by decide +kernel) bad_g _).mono ?_
      rintro e u7 ⟨rfl, hb7⟩
      have J7 := Lib.hid (Iv.call J6.out hb7)
      clear hb7
      go_wp2_with fail
      refine (small_any 48 31 (by omega) _).mono ?_
      rintro e u8 ⟨rfl, hb8⟩
      have J8 := Lib.hid (Iv.call J7.out hb8)
      have hs1 : ((⟨(Lib.repeatL [48] 31).toArray⟩ : ByteArray).size) = 31 := by decide +kernel
      have hsp := bad_sp
      generalize (⟨(Lib.repeatL [48] 31).toArray⟩ : ByteArray) = z at *
      have HSP := Lib.hid hsp
      have hadd : ∀ W, (Op.stringOp .add z ⟨#[32]⟩).run Tryd.prog W = .ok (.string (z ++ ⟨#[32]⟩)) W := fun W => run_string_add W _ _ (by omega) (by decide)
      have hs2 : (z ++ (⟨#[32]⟩ : ByteArray)).size ≤ 140737488355328 := by rw [ByteArray.size_append]; have e1 : (⟨#[32]⟩ : ByteArray).size = 1 := rfl; omega
      clear hb8 hsp hs1
      go_wp2_with fail
      refine (fails_yes _ hs2 HSP.out _).mono ?_
      rintro e u9 ⟨rfl, hb9⟩
      have J9 := Lib.hid (Iv.call J8.out hb9)
      clear hb9
      go_wp2_with fail
      go_ret
      exact ⟨rfl, J9.out.below⟩
end Go.Proofs.YtfhddcjepgjfnaaDoor
