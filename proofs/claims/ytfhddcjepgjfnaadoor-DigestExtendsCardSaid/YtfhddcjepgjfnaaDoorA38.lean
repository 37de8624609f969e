/- The walk of the statement DigestExtends. -/
import Derived.Test.YtfhddcjepgjfnaaDoorA37
namespace Go.Proofs.YtfhddcjepgjfnaaDoor
open Go.RowKit Md

set_option maxRecDepth 100000 in
set_option maxHeartbeats 4000000 in
theorem extends_any (S L : ByteArray) (T : Nat) (hT : T < 65536) (hS : S.size ≤ 140737488355328) (hL : L.size ≤ 140737488355328) (t : ByteArray) (ht : t.size ≤ 140737488355328) (w : World) (hK : HasK w) :
    Calls Tryd.prog 7 #[.agg #[.string S, .string L, .int .u16 T], .string t] w fun e w' => e = .returned (.bool true) ∧ Below w.heap.size w w' := by
  have HK := Lib.hid hK
  have hp := hK.pos
  have HO : Hid (∀ W : World, _) := fun (W : World) => octetsL_any false S L T hT hS hL W
  have hy : min (t.size : Int) 300 = ((min t.size 300 : Nat) : Int) := by omega
  have hy1 : min t.size 300 ≤ 300 := by omega
  have hy2 : min t.size 300 ≤ t.size := by omega
  generalize min t.size 300 = y at *
  have hy3 : (y : Int) ≤ t.size := by omega
  have hy4 : (0 : Int) ≤ y := by omega
  have hx7 : (t.extract 0 y).size ≤ 300 := by rw [ByteArray.size_extract]; omega
  have I0 := Lib.hid ((Iv.start w).new (#[.string S, .string L, .int .u16 T]) 24)
  clear hK
  go_enter Tryd.func7, Tryd.ntmps7
  go_wp2_with fail
  refine (works_any _ (HK.out.below I0.out.below hp)).mono ?_
  rintro e w1 ⟨rfl, hb1⟩
  have I1 := Lib.hid (I0.out.call hb1)
  have hlt := I1.out.lt 0 rfl
  clear hb1
  go_wp2_with fail
  have D0 : ∀ W, Below w1.heap.size w1 W → W.cell? ⟨w.heap.size, 0, none⟩ = some (.string S) := fun W h => (I1.out.call h).cell 0 rfl 0 rfl
  have D1 : ∀ W, Below w1.heap.size w1 W → W.cell? ⟨w.heap.size, 1, none⟩ = some (.string L) := fun W h => (I1.out.call h).cell 0 rfl 1 rfl
  have D2 : ∀ W, Below w1.heap.size w1 W → W.cell? ⟨w.heap.size, 2, none⟩ = some (.int .u16 T) := fun W h => (I1.out.call h).cell 0 rfl 2 rfl
  have hrefl : Below w1.heap.size w1 w1 := Below.refl _ _
  have hreflD : Below w1.heap.size w1 w1.drew := (Below.refl _ _).drew
  go_cut [5, 1] (fun x5 x1 W => ∃ s u : ByteArray, x5 = .string s ∧ x1 = .string u ∧ s.size ≤ 4000 ∧ u.size ≤ 300 ∧ Below w1.heap.size w1 W)
  case first =>
    go_region_held3 (fun W => Below w1.heap.size w1 W) (first | with_reducible exact hrefl | with_reducible exact hreflD | with_reducible exact HB2) ((go_at_call 11; refine (HO.out _).mono ?_; rintro e w2 ⟨s, rfl, hs, hB2⟩; have HB2 : Below w1.heap.size w1 w2 := hreflD.trans hB2; have HS : s.size ≤ 4000 := hs; clear hB2 hs))
    all_goals go_wp2_with fail
    all_goals go_meet
    all_goals exact ⟨_, _, rfl, rfl, HS, hx7, HB2⟩
  case rest =>
    obtain ⟨s, u, rfl, rfl, hs, hu, hB2⟩ := hcut
    have I2 := Lib.hid ((I1.out.call hB2).sub (M := []) (fun x hx => by cases hx))
    clear hB2 D0 D1 D2 hrefl hreflD hy hy1 hy2 hy3 hy4 hx7 hlt
    obtain ⟨a, ha⟩ : ∃ a, asc s.data.toList = a := ⟨_, rfl⟩
    have hal : a.length = s.size := by rw [← ha]; exact asc_length s
    obtain ⟨tt, htt⟩ : ∃ tt, changed Md.begin (ended a a.length) = tt := ⟨_, rfl⟩
    have hok : tt.ok := htt ▸ changed_ok _ begin_ok _
    have hmd : md5 a = told tt := by rw [md5, htt]
    have hsum := fun W (hK : HasK W) => sum_short s (by omega) W hK
    rw [ha, hmd] at hsum
    have hlen := told_length tt
    have HL2 : Hid (∀ i, (told tt).getD i 0 < 256) := Lib.hid (told_lt tt)
    have hend : DW (told tt) (s.size + (1 + (119 - s.size % 64) % 64 + 8)) 16 = _ := DW_end tt hok (s.size + (1 + (119 - s.size % 64) % 64 + 8))
    have HEND := Lib.hid hend
    have Ha := Lib.hid ha
    have HAL := Lib.hid hal
    have HTT := Lib.hid htt
    have HOK := Lib.hid hok
    have HSUM := Lib.hid hsum
    generalize told tt = l at *
    have HLEN := Lib.hid hlen
    clear ha hal htt hok hmd hsum hlen hend
    go_wp2_with fail
    refine (HSUM.out _ (HK.out.below I2.out.below hp)).mono ?_
    rintro e w3 ⟨rfl, hb3⟩
    have I3 := Lib.hid ((I2.out.call hb3).new (ob l) 28)
    clear hb3
    go_wp2_with ((with_reducible refine wpList_store_new rfl 28 _ _ rfl _ (ob l) ?_ ?_ 16 ?_ ?_ ?_ ?_ ?_); (next => rfl); (next => rfl); (next => kernel_rfl); (next => rfl); (next => exact ob_size16 _ HLEN.out); (next => exact ob_one _))
    have hz : ((119 - (s.size : Int) % 64) % 64) = ((119 - s.size % 64) % 64 : Nat) := by omega
    rw [hz]
    have hz64 : (119 - s.size % 64) % 64 < 64 := Nat.mod_lt _ (by decide)
    obtain ⟨z, hzz⟩ : ∃ z, (119 - s.size % 64) % 64 = z := ⟨_, rfl⟩
    rw [hzz] at hz64 HEND
    rw [hzz]
    have hz' : ((119 - (s.size : Int)) % 64) = (z : Nat) := by omega
    rw [hz']
    have HZ := Lib.hid hzz
    clear hz hzz hz'
    refine (repeat0_any z (by omega) _).mono ?_
    rintro e w4 ⟨rfl, hb4⟩
    have I4 := Lib.hid (I3.out.call hb4)
    have hzs : (zs z).size ≤ 63 := by rw [zs_size]; omega
    have hadd : ∀ W, (Op.stringOp .add ⟨#[128]⟩ (zs z)).run Tryd.prog W = .ok (.string (⟨#[128]⟩ ++ zs z)) W := fun W => run_string_add W _ _ (by decide) (by omega)
    have h0 : asc (⟨#[128]⟩ ++ zs z : ByteArray).data.toList = padk s.size 0 := by
      rw [asc_append, padk, HZ.out]
      have e1 : asc (⟨#[128]⟩ : ByteArray).data.toList = [128] := rfl
      have e2 : asc (zs z).data.toList = List.replicate z 0 := by simp [asc, zs]
      rw [e1, e2]; simp
    have H0 := Lib.hid h0
    clear hb4 h0
    go_wp2_with fail
    go_loopw [8, 40] (fun x8 x40 W => ∃ (k : Nat) (q : ByteArray), k ≤ 8 ∧ x40 = .int .i64 k ∧ x8 = .string q ∧ Hid (asc q.data.toList = padk s.size k) ∧ Iv w W [(w3.heap.size, ob l, 28)]) (fun _ x40 _ => 8 - (intOf x40).toNat)
    case atStart => exact ⟨0, _, by omega, rfl, rfl, H0.out, I4.out⟩
    case round =>
      obtain ⟨k, q, hk, rfl, rfl, HQ, hI⟩ := hrel
      have J0 := Lib.hid hI
      have hqs : q.size = 1 + z + k := by rw [← asc_length, HQ.out, padk_length _ _ hk, HZ.out]
      have hq1 : q.size ≤ 1 + z + k := by omega
      have HQS := Lib.hid hqs
      clear hI hadd hqs
      by_cases hlt : k < 8
      · have hv := shr_eq s.size k hlt (by omega)
        have hv2 : 8 * s.size / 256 ^ k % 256 < 256 := Nat.mod_lt _ (by decide)
        have hsucc := padk_succ s.size k hlt
        generalize 8 * s.size / 256 ^ k % 256 = v at *
        have hcB : (8 * (s.size : Int)) / 2 ^ (8 * k) % 256 = ((UInt8.ofNat v).toNat : Nat) := by rw [hv, UInt8.toNat_ofNat', Nat.mod_eq_of_lt hv2]
        have hcv := conv1_new (UInt8.ofNat v) _ hcB wr
        have hadd : ∀ W, (Op.stringOp .add q (txt [UInt8.ofNat v])).run Tryd.prog W = .ok (.string (q ++ txt [UInt8.ofNat v])) W := fun W => run_string_add W _ _ (by omega) (by show 1 ≤ _; omega)
        have HV := Lib.hid hv2
        have HSUCC := Lib.hid hsucc
        clear hv hcB hv2 hsucc
        go_wp2_with fail
        go_roundw
        case rel => exact ⟨k + 1, _, by omega, by go_num, rfl, by show asc _ = _; rw [asc_append, asc_txt1, HQ.out, UInt8.toNat_ofNat', Nat.mod_eq_of_lt HV.out]; exact HSUCC.out, J0.out.forget _⟩
        case measure => simp [intOf]; omega
      · obtain rfl : k = 8 := by omega
        clear hlt hk
        have hm : (s.size : Int) + q.size = ((s.size + (1 + z + 8) : Nat) : Int) := by have := HQS.out; omega
        have J1 := J0.out.new (#[.int .i64 0, .int .i64 0, .int .i64 0, .int .i64 0, .int .i64 ((s.size : Int) + q.size), .string ⟨#[]⟩]) 41
        have HJ1 := Lib.hid J1
        rw [hm, ← DW_zero l] at J1
        have J2 := Lib.hid J1
        clear J1
        have Hm := Lib.hid hm
        clear hm
        go_wp2_with ((with_reducible refine wpList_load_whole rfl 28 _ rfl (w3.heap.size) ?_ 28 (ob l) _ (HJ1.out.get 1 rfl) Tryd.underlying28 ?_ 16 ?_ ?_ ?_); (next => rfl); (next => rfl); (next => kernel_rfl); (next => exact ob_size16 _ HLEN.out))
        rw [Hm.out, ← DW_zero l]
        obtain ⟨m, hmq⟩ : ∃ m, s.size + (1 + z + 8) = m := ⟨_, rfl⟩
        rw [hmq] at J2 HEND
        rw [hmq]
        have Hmq := Lib.hid hmq
        clear hmq
        clear HJ1
        have hqe : asc (s ++ q).data.toList = ended a a.length := by
          rw [asc_append, HQ.out, Ha.out, ← HAL.out, padk_end]
        have hq80 : q.size ≤ 72 := by omega
        have HQE := Lib.hid hqe
        have hne : w3.heap.size ≠ wr.heap.size := Nat.ne_of_lt (J0.out.lt 0 rfl)
        have hwB := J0.out.below.size
        obtain ⟨B, hB⟩ : ∃ B, wr.heap.size = B := ⟨_, rfl⟩
        rw [hB] at hne hwB
        obtain ⟨W0, hW0⟩ : ∃ W0, wr.alloc (.cells (DW l m 0) 41) = W0 := ⟨_, rfl⟩
        rw [hB, hW0] at J2
        rw [hB, hW0]
        clear hB hW0 J0 hqe
        go_loopw [62] (fun x62 W => ∃ k : Nat, k ≤ 16 ∧ x62 = .int .i64 k ∧ Iv w W [(B, DW l m k, 41), (w3.heap.size, ob l, 28)]) (fun x62 _ => 16 - (intOf x62).toNat)
        case atStart => exact ⟨0, by omega, rfl, J2.out⟩
        case round =>
          obtain ⟨k, hk, rfl, hI⟩ := hrel
          have J3 := Lib.hid hI
          clear hI J2
          by_cases hlt : k < 16
          · obtain ⟨o, ho⟩ : ∃ o, l.getD k 0 = o := ⟨_, rfl⟩
            have hix := fun W => run_index_one (P := Tryd.prog) (n := 16) Tryd.underlying28 Tryd.isAgg5 Tryd.sizeOf5 (ob l) k (.int .u8 o) hlt (by rw [← ho]; exact ob_get l k (by rw [HLEN.out]; exact hlt)) W
            have ho256 : o < 256 := ho ▸ HL2.out k
            have c0 := J3.out.cell 0 rfl (k / 4) (DW_get l m k (k / 4) (by omega))
            have f0 := J3.out.free 0 rfl (k / 4)
            have hsh := shl64 o (k % 4) ho256 (by omega)
            have hor := or_stepI (xk l k (k / 4)) o (k % 4) (by rw [xk_at]; exact le_lt l HL2.out _ _) ho256 (by omega)
            have hor' : bits BinOp.or IntKind.i64 (xk l k (k / 4) : Int) ((o * 256 ^ (k % 4) : Nat) : Int) = (xk l (k + 1) (k / 4) : Nat) := by
              rw [hor, xk_succ_at, xk_at, le, ← ho, show 4 * (k / 4) + k % 4 = k by omega]
            generalize o * 256 ^ (k % 4) = oo at *
            have Hor := Lib.hid hor'
            clear hor hor' ho
            go_wp2
            go_region
            go_wp2
            go_roundw
            case rel =>
              refine ⟨k + 1, by omega, by go_num, ?_⟩
              rw [Hor.out, ← DW_set l m k hlt]
              exact (J3.out.set hwB (fun x hx => by rw [List.mem_singleton.1 hx]; exact hne) (k / 4) _).drew
            case measure => simp [intOf]; omega
          · obtain rfl : k = 16 := by omega
            clear hlt hk
            have J4 := J3.out
            rw [HEND.out] at J4
            have J4 := Lib.hid J4
            have hm64 : m % 64 = 0 ∧ m + u.size ≤ 65536 := by
              have h1 := (ended_length a a.length).1
              rw [← HQE.out, asc_length, ByteArray.size_append] at h1
              have := HQS.out
              have := Hmq.out
              omega
            obtain ⟨un, qn, h22, h23⟩ := ext_both tt HOK.out m hm64.1 u hm64.2
            obtain ⟨M, hMe⟩ : ∃ M, m + u.size = M := ⟨_, rfl⟩
            rw [hMe] at h22 h23
            have HME := Lib.hid hMe
            clear hMe
            have H22 := Lib.hid h22
            have H23 := Lib.hid h23
            have HM64 := Lib.hid hm64
            clear h22 h23 hm64 J3
            go_wp2_with ((with_reducible refine wpList_load_whole rfl 41 _ rfl (B) ?_ 41 (#[.int .i64 tt.a, .int .i64 tt.b, .int .i64 tt.c, .int .i64 tt.d, .int .i64 (m : Nat), .string ⟨#[]⟩]) _ (J4.out.get 0 rfl) Tryd.underlying41 ?_ 6 ?_ ?_ ?_); (next => rfl); (next => rfl); (next => kernel_rfl); (next => rfl))
            refine (H22.out _ (HK.out.below J4.out.below hp)).mono ?_
            rintro e v1 ⟨rfl, hb1⟩
            have J5 := Lib.hid (J4.out.call hb1)
            have J6 := Lib.hid (J5.out.row hwB (fun x hx => by rw [List.mem_singleton.1 hx]; exact hne) (#[.int .i64 un.a, .int .i64 un.b, .int .i64 un.c, .int .i64 un.d, .int .i64 (M : Nat), .string qn]))
            clear hb1
            go_wp2_with (first | ((with_reducible refine wpList_store_row rfl 41 _ _ rfl (B) (#[.int .i64 un.a, .int .i64 un.b, .int .i64 un.c, .int .i64 un.d, .int .i64 (M : Nat), .string qn]) ?_ ?_ 41 _ (J5.out.get 0 rfl) 6 ?_ ?_ ?_ ?_ ?_); (next => rfl); (next => rfl); (next => kernel_rfl); (next => rfl); (next => rfl); (next => rfl)) | ((with_reducible refine wpList_load_whole rfl 41 _ rfl (B) ?_ 41 (#[.int .i64 un.a, .int .i64 un.b, .int .i64 un.c, .int .i64 un.d, .int .i64 (M : Nat), .string qn]) _ (J6.out.get 0 rfl) Tryd.underlying41 ?_ 6 ?_ ?_ ?_); (next => rfl); (next => rfl); (next => kernel_rfl); (next => rfl)))
            generalize v1.setRow B (#[.int .i64 un.a, .int .i64 un.b, .int .i64 un.c, .int .i64 un.d, .int .i64 (M : Nat), .string qn]) = v2 at *
            refine (H23.out _ (HK.out.below J6.out.below hp)).mono ?_
            rintro e v3 ⟨rfl, hb3⟩
            have J7 := Lib.hid (J6.out.call hb3)
            obtain ⟨f, hf⟩ : ∃ f, told (changed tt (ended (asc u.data.toList) M)) = f := ⟨_, rfl⟩
            have hfl : f.length = 16 := hf ▸ told_length _
            have hsum2 := fun W (hK : HasK W) => sum_short (s ++ q ++ u) (by rw [ByteArray.size_append, ByteArray.size_append]; omega) W hK
            have hmd2 : md5 (asc (s ++ q ++ u).data.toList) = f := by
              have hx64 := (ended_length a a.length).1
              rw [asc_append, HQE.out, md5_behind _ _ hx64, ← HQE.out, asc_length, asc_length, HQE.out, HTT.out, ← hf, ByteArray.size_append, HQS.out, Hmq.out, HME.out]
            rw [hmd2] at hsum2
            rw [hf]
            have HSUM2 := Lib.hid hsum2
            have HFL := Lib.hid hfl
            have J8 := Lib.hid (J7.out.new (ob f) 28)
            have hs1 : ∀ W, (Op.stringOp .add s q).run Tryd.prog W = .ok (.string (s ++ q)) W := fun W => run_string_add W _ _ (by omega) (by omega)
            have hs2 : ∀ W, (Op.stringOp .add (s ++ q) u).run Tryd.prog W = .ok (.string (s ++ q ++ u)) W := fun W => run_string_add W _ _ (by rw [ByteArray.size_append]; omega) (by omega)
            clear hb3 hf hfl hsum2 hmd2
            go_wp2_with ((with_reducible refine wpList_store_new rfl 28 _ _ rfl _ (ob f) ?_ ?_ 16 ?_ ?_ ?_ ?_ ?_); (next => rfl); (next => rfl); (next => kernel_rfl); (next => rfl); (next => exact ob_size16 _ HFL.out); (next => exact ob_one _))
            refine (HSUM2.out _ (HK.out.below J8.out.below hp)).mono ?_
            rintro e v4 ⟨rfl, hb4⟩
            have J9 := Lib.hid ((J8.out.call hb4).new (ob f) 28)
            have he := eq28 f f HFL.out HFL.out
            rw [show (f == f) = true by simp] at he
            clear hb4 hs1 hs2
            go_wp2_with (first | ((with_reducible refine wpList_store_new rfl 28 _ _ rfl _ (ob f) ?_ ?_ 16 ?_ ?_ ?_ ?_ ?_); (next => rfl); (next => rfl); (next => kernel_rfl); (next => rfl); (next => exact ob_size16 _ HFL.out); (next => exact ob_one _)) | ((with_reducible refine wpList_load_wanted ?_ 28 _ rfl (v4.heap.size) ?_ 28 (ob f) _ (J9.out.get 0 rfl) Tryd.underlying28 ?_ 16 ?_ ?_ ?_); (next => rfl); (next => rfl); (next => rfl); (next => kernel_rfl); (next => exact ob_size16 _ HFL.out)) | ((with_reducible refine wpList_load_wanted ?_ 28 _ rfl (v3.heap.size) ?_ 28 (ob f) _ (J9.out.get 1 rfl) Tryd.underlying28 ?_ 16 ?_ ?_ ?_); (next => rfl); (next => rfl); (next => rfl); (next => kernel_rfl); (next => exact ob_size16 _ HFL.out)))
            go_ret
            exact ⟨rfl, J9.out.below⟩
end Go.Proofs.YtfhddcjepgjfnaaDoor
