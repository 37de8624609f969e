/- Law OctetBack: the walk. -/
import Derived.Test.YtgjfhamophknfaaDoorC7
import Derived.Test.YtgjfhamophknfaaDoorEq
namespace Go.Proofs.YtgjfhamophknfaaDoor
open Go.RowKit

theorem put_num (x : Int) (n : Nat) (m : Int) (k : Nat) (hx : x = k) (hk : k ≤ m) : puS m n x = txtN (octs k n) ∧ puE m x = 0 := by
  subst hx
  unfold puS puE
  rw [if_neg (by omega), if_neg (by omega), Int.toNat_natCast]
  exact ⟨rfl, rfl⟩

theorem low (n : Int) (m : Nat) (h0 : 0 < m) (h1 : m ≤ 4294967296) : ∃ k : Nat, k < m ∧ wrap64 ((IntKind.u64.wrap n).tmod (m : Int)) = k := by
  have hp : 0 ≤ IntKind.u64.wrap n := wrap_u64_nonneg n
  rw [Int.tmod_eq_emod_of_nonneg hp]
  have h2 := Int.emod_nonneg (IntKind.u64.wrap n) (show (m : Int) ≠ 0 by omega)
  have h3 := Int.emod_lt_of_pos (IntKind.u64.wrap n) (show (0 : Int) < m by omega)
  refine ⟨(IntKind.u64.wrap n % (m : Int)).toNat, by omega, ?_⟩
  rw [IntWalk.wrap64_in _ (by omega)]
  omega
/-- What is written of a number lies between other octets: it is read back. -/
theorem mid_cat (a b : ByteArray) (s : ByteArray) (ha : a.size ≤ 300) (hb : b.size ≤ 300) (hs : s.size ≤ 400) :
    ∃ c1 c, (∀ W, (Op.stringOp .add a s).run Tryd.prog W = .ok (.string c1) W) ∧ (∀ W, (Op.stringOp .add c1 b).run Tryd.prog W = .ok (.string c) W) ∧ c = a ++ s ++ b ∧ c.size ≤ 65536 := by
  refine ⟨a ++ s, a ++ s ++ b, fun W => run_string_add W _ _ (by omega) (by omega), fun W => run_string_add W _ _ (by rw [ByteArray.size_append]; omega) (by omega), rfl, ?_⟩
  rw [ByteArray.size_append, ByteArray.size_append]; omega

theorem bwithC {w w1 w2 : World} (h1 : Below w.heap.size w w1) (h2 : Below w1.heap.size w1 w2) : Below w.heap.size w w2 := h1.trans (h2.mono h1.size)
theorem back_s32 (a b : ByteArray) (ha : a.size ≤ 300) (hb : b.size ≤ 300) (k : Int) (h1 : -2147483648 ≤ k) (h2 : k ≤ 2147483647) :
    ∃ s : ByteArray, s.size = 4 ∧ (∀ W : World, Calls Tryd.prog 19 #[.int .i64 k] W fun e w' => e = .returned (.tuple #[.string s, .int .i64 0]) ∧ Below W.heap.size W w') ∧
      ∃ c1 c, (∀ W, (Op.stringOp .add a s).run Tryd.prog W = .ok (.string c1) W) ∧ (∀ W, (Op.stringOp .add c1 b).run Tryd.prog W = .ok (.string c) W) ∧
        (∀ W : World, Calls Tryd.prog 31 #[.string c, .int .i64 a.size] W fun e w' => e = .returned (.tuple #[.int .i64 k, .int .i64 0]) ∧ Below W.heap.size W w') := by
  obtain ⟨v, hv⟩ : ∃ v : Nat, (if k < 0 then k + 4294967296 else k).toNat = v := ⟨_, rfl⟩
  have hvl : v < 4294967296 := by rw [← hv]; split <;> omega
  have hvs : sgn v = k := by
    unfold sgn
    split at hv <;> split <;> omega
  obtain ⟨c1, c, hc1, hc2, hce, hcs⟩ := mid_cat a b (txtN (octs v 4)) ha hb (by rw [txtN_size, octs_length]; omega)
  refine ⟨txtN (octs v 4), by rw [txtN_size, octs_length], fun W => ?_, c1, c, hc1, hc2, fun W => ?_⟩
  · have h := ps32_any k W
    rwa [show psS k = txtN (octs v 4) by unfold psS; rw [if_neg (by omega), hv], show psE k = 0 by unfold psE; rw [if_neg (by omega)]] at h
  · have h := s32_any c a.size W
    obtain ⟨h1, h2⟩ := mid_num a b v 4 (by omega) (hce ▸ hcs)
    rw [← hce] at h1 h2
    rwa [h1, show partE c a.size 4 = 0 from h2, hvs] at h
set_option maxRecDepth 100000 in
set_option maxHeartbeats 4000000 in
theorem back_walk (A B : ByteArray) (n : Int) (t : ByteArray) (m : Nat) (hA : A.size ≤ 140737488355328) (hB : B.size ≤ 140737488355328) (ht : t.size ≤ 140737488355328) (hm : m < 256) (hn1 : -9223372036854775808 ≤ n) (hn2 : n ≤ 9223372036854775807) (w : World) :
    Calls Tryd.prog 6 #[.string A, .string B, .int .i64 n, .string t, .int .u8 m] w fun e w' => e = .returned (.bool true) ∧ Below w.heap.size w w' := by
  obtain ⟨a, ha⟩ : ∃ a, A.extract 0 (min (A.size : Int) 300).toNat = a := ⟨_, rfl⟩
  obtain ⟨b, hb0⟩ : ∃ b, B.extract 0 (min (B.size : Int) 300).toNat = b := ⟨_, rfl⟩
  obtain ⟨u, hu⟩ : ∃ u, t.extract 0 (min (t.size : Int) 100).toNat = u := ⟨_, rfl⟩
  have has : a.size ≤ 300 := by rw [← ha, ByteArray.size_extract]; omega
  have hbs : b.size ≤ 300 := by rw [← hb0, ByteArray.size_extract]; omega
  have hus : u.size ≤ 100 := by rw [← hu, ByteArray.size_extract]; omega
  have m1 : (0 : Int) ≤ min (A.size : Int) 300 := by omega
  have m2 : min (A.size : Int) 300 ≤ A.size := by omega
  have m3 : (0 : Int) ≤ min (B.size : Int) 300 := by omega
  have m4 : min (B.size : Int) 300 ≤ B.size := by omega
  have m5 : (0 : Int) ≤ min (t.size : Int) 100 := by omega
  have m6 : min (t.size : Int) 100 ≤ t.size := by omega
  have mixed : Tryd.prog.follows .mixedOrders = true := by kernel_rfl
  go_enter Tryd.func6, Tryd.ntmps6
  go_wp2_with fail
  refine (works_any _).mono ?_
  rintro e w1 ⟨rfl, hb⟩
  have HB1 := Lib.hid hb
  clear hb
  go_wp2_with fail
  go_region_o
  go_wp2_with fail
  have HBw := Lib.hid (HB1.out.drew)
  clear HB1 m1 m2 m3 m4 m5 m6 mixed
  go_loopw [43] (fun x43 W => (x43 = .int .i64 0 ∨ x43 = .int .i64 1 ∨ x43 = .int .i64 2 ∨ x43 = .int .i64 3) ∧ Below w.heap.size w W) (fun x43 _ => (3 - intOf x43).toNat)
  case atStart => exact ⟨.inl rfl, HBw.out⟩
  case round =>
    obtain ⟨hj, hI⟩ := hrel
    have HB2 := Lib.hid hI
    clear hI HBw
    rcases hj with rfl | rfl | rfl | rfl
    · have hi1 : ∀ W, (Instr.index 45 (.agg #[Value.int .i64 8, .int .i64 16, .int .i64 32]) (.int .i64 0)).run Tryd.prog W = .ok (.int .i64 8) W := fun W => rfl
      have hi2 : ∀ W, (Instr.index 50 (.agg #[Value.func (.func 16) #[] #[], .func (.func 17) #[] #[], .func (.func 18) #[] #[]]) (.int .i64 0)).run Tryd.prog W = .ok (.func (.func 16) #[] #[]) W := fun W => rfl
      have hi3 : ∀ W, (Instr.index 51 (.agg #[Value.func (.func 29) #[] #[], .func (.func 10) #[] #[], .func (.func 12) #[] #[]]) (.int .i64 0)).run Tryd.prog W = .ok (.func (.func 29) #[] #[]) W := fun W => rfl
      obtain ⟨k, hk, hke⟩ := low n 256 (by omega) (by omega)
      have HK := Lib.hid (show wrap64 ((IntKind.u64.wrap n).tmod 256) = k from hke)
      have hss : (txtN (octs k 1)).size = 1 := by rw [txtN_size, octs_length]
      obtain ⟨c1, c, hc1, hc2, hce, hcs⟩ := mid_cat a b (txtN (octs k 1)) has hbs (by omega)
      have HPut : Hid (∀ W : World, Calls Tryd.prog 16 #[.int .i64 k] W fun e w' => e = .returned (.tuple #[.string (txtN (octs k 1)), .int .i64 0]) ∧ Below W.heap.size W w') := fun W => by
        have h := pu8_any k W
        obtain ⟨h1, h2⟩ := put_num k 1 255 k rfl (by omega)
        rwa [h1, h2] at h
      have HGet : Hid (∀ W : World, Calls Tryd.prog 29 #[.string c, .int .i64 a.size] W fun e w' => e = .returned (.tuple #[.int .i64 k, .int .i64 0]) ∧ Below W.heap.size W w') := fun W => by
        have h := u8_any c a.size W
        obtain ⟨h1, h2⟩ := mid_num a b k 1 (by omega) (hce ▸ hcs)
        rw [← hce] at h1 h2
        rwa [h1, show partE c a.size 1 = 0 from h2] at h
      generalize txtN (octs k 1) = s at *
      clear hke hk hce hcs
      go_wp2_with fail
      rw [HK.out]
      refine (HPut.out _).mono ?_
      rintro e w3 ⟨rfl, hb⟩
      have HB3 := Lib.hid (bwithC HB2.out hb)
      clear hb HB2
      go_wp2_with fail
      refine (says_any _ _).mono ?_
      rintro e w4 ⟨b4, rfl, hb, hl, hc⟩
      have HB4 := Lib.hid (bwithC HB3.out hb)
      have HC := Lib.hid hc
      have HL := Lib.hid hl
      clear hb hc hl HB3
      go_wp2_with fail
      refine (HGet.out _).mono ?_
      rintro e w5 ⟨rfl, hb⟩
      have HB5 := Lib.hid (bwithC HB4.out hb)
      have HD := Lib.hid ((hb.block b4 HL.out).trans HC.out)
      clear hb HC HL HB4
      go_wp2_with fail
      refine (says1_yes _ _ _ HD.out).mono ?_
      rintro e w6 ⟨rfl, rfl⟩
      clear HD
      go_wp2_with fail
      go_roundw
      case rel => exact ⟨.inr (.inl rfl), HB5.out⟩
      case measure => simp [intOf]
    · have hi1 : ∀ W, (Instr.index 45 (.agg #[Value.int .i64 8, .int .i64 16, .int .i64 32]) (.int .i64 1)).run Tryd.prog W = .ok (.int .i64 16) W := fun W => rfl
      have hi2 : ∀ W, (Instr.index 50 (.agg #[Value.func (.func 16) #[] #[], .func (.func 17) #[] #[], .func (.func 18) #[] #[]]) (.int .i64 1)).run Tryd.prog W = .ok (.func (.func 17) #[] #[]) W := fun W => rfl
      have hi3 : ∀ W, (Instr.index 51 (.agg #[Value.func (.func 29) #[] #[], .func (.func 10) #[] #[], .func (.func 12) #[] #[]]) (.int .i64 1)).run Tryd.prog W = .ok (.func (.func 10) #[] #[]) W := fun W => rfl
      obtain ⟨k, hk, hke⟩ := low n 65536 (by omega) (by omega)
      have HK := Lib.hid (show wrap64 ((IntKind.u64.wrap n).tmod 65536) = k from hke)
      have hss : (txtN (octs k 2)).size = 2 := by rw [txtN_size, octs_length]
      obtain ⟨c1, c, hc1, hc2, hce, hcs⟩ := mid_cat a b (txtN (octs k 2)) has hbs (by omega)
      have HPut : Hid (∀ W : World, Calls Tryd.prog 17 #[.int .i64 k] W fun e w' => e = .returned (.tuple #[.string (txtN (octs k 2)), .int .i64 0]) ∧ Below W.heap.size W w') := fun W => by
        have h := pu16_any k W
        obtain ⟨h1, h2⟩ := put_num k 2 65535 k rfl (by omega)
        rwa [h1, h2] at h
      have HGet : Hid (∀ W : World, Calls Tryd.prog 10 #[.string c, .int .i64 a.size] W fun e w' => e = .returned (.tuple #[.int .i64 k, .int .i64 0]) ∧ Below W.heap.size W w') := fun W => by
        have h := u16_any c a.size W
        obtain ⟨h1, h2⟩ := mid_num a b k 2 (by omega) (hce ▸ hcs)
        rw [← hce] at h1 h2
        rwa [h1, show partE c a.size 2 = 0 from h2] at h
      generalize txtN (octs k 2) = s at *
      clear hke hk hce hcs
      go_wp2_with fail
      rw [HK.out]
      refine (HPut.out _).mono ?_
      rintro e w3 ⟨rfl, hb⟩
      have HB3 := Lib.hid (bwithC HB2.out hb)
      clear hb HB2
      go_wp2_with fail
      refine (says_any _ _).mono ?_
      rintro e w4 ⟨b4, rfl, hb, hl, hc⟩
      have HB4 := Lib.hid (bwithC HB3.out hb)
      have HC := Lib.hid hc
      have HL := Lib.hid hl
      clear hb hc hl HB3
      go_wp2_with fail
      refine (HGet.out _).mono ?_
      rintro e w5 ⟨rfl, hb⟩
      have HB5 := Lib.hid (bwithC HB4.out hb)
      have HD := Lib.hid ((hb.block b4 HL.out).trans HC.out)
      clear hb HC HL HB4
      go_wp2_with fail
      refine (says1_yes _ _ _ HD.out).mono ?_
      rintro e w6 ⟨rfl, rfl⟩
      clear HD
      go_wp2_with fail
      go_roundw
      case rel => exact ⟨.inr (.inr (.inl rfl)), HB5.out⟩
      case measure => simp [intOf]
    · have hi1 : ∀ W, (Instr.index 45 (.agg #[Value.int .i64 8, .int .i64 16, .int .i64 32]) (.int .i64 2)).run Tryd.prog W = .ok (.int .i64 32) W := fun W => rfl
      have hi2 : ∀ W, (Instr.index 50 (.agg #[Value.func (.func 16) #[] #[], .func (.func 17) #[] #[], .func (.func 18) #[] #[]]) (.int .i64 2)).run Tryd.prog W = .ok (.func (.func 18) #[] #[]) W := fun W => rfl
      have hi3 : ∀ W, (Instr.index 51 (.agg #[Value.func (.func 29) #[] #[], .func (.func 10) #[] #[], .func (.func 12) #[] #[]]) (.int .i64 2)).run Tryd.prog W = .ok (.func (.func 12) #[] #[]) W := fun W => rfl
      obtain ⟨k, hk, hke⟩ := low n 4294967296 (by omega) (by omega)
      have HK := Lib.hid (show wrap64 ((IntKind.u64.wrap n).tmod 4294967296) = k from hke)
      have hss : (txtN (octs k 4)).size = 4 := by rw [txtN_size, octs_length]
      obtain ⟨c1, c, hc1, hc2, hce, hcs⟩ := mid_cat a b (txtN (octs k 4)) has hbs (by omega)
      have HPut : Hid (∀ W : World, Calls Tryd.prog 18 #[.int .i64 k] W fun e w' => e = .returned (.tuple #[.string (txtN (octs k 4)), .int .i64 0]) ∧ Below W.heap.size W w') := fun W => by
        have h := pu32_any k W
        obtain ⟨h1, h2⟩ := put_num k 4 4294967295 k rfl (by omega)
        rwa [h1, h2] at h
      have HGet : Hid (∀ W : World, Calls Tryd.prog 12 #[.string c, .int .i64 a.size] W fun e w' => e = .returned (.tuple #[.int .i64 k, .int .i64 0]) ∧ Below W.heap.size W w') := fun W => by
        have h := u32_any c a.size W
        obtain ⟨h1, h2⟩ := mid_num a b k 4 (by omega) (hce ▸ hcs)
        rw [← hce] at h1 h2
        rwa [h1, show partE c a.size 4 = 0 from h2] at h
      generalize txtN (octs k 4) = s at *
      clear hke hk hce hcs
      go_wp2_with fail
      rw [HK.out]
      refine (HPut.out _).mono ?_
      rintro e w3 ⟨rfl, hb⟩
      have HB3 := Lib.hid (bwithC HB2.out hb)
      clear hb HB2
      go_wp2_with fail
      refine (says_any _ _).mono ?_
      rintro e w4 ⟨b4, rfl, hb, hl, hc⟩
      have HB4 := Lib.hid (bwithC HB3.out hb)
      have HC := Lib.hid hc
      have HL := Lib.hid hl
      clear hb hc hl HB3
      go_wp2_with fail
      refine (HGet.out _).mono ?_
      rintro e w5 ⟨rfl, hb⟩
      have HB5 := Lib.hid (bwithC HB4.out hb)
      have HD := Lib.hid ((hb.block b4 HL.out).trans HC.out)
      clear hb HC HL HB4
      go_wp2_with fail
      refine (says1_yes _ _ _ HD.out).mono ?_
      rintro e w6 ⟨rfl, rfl⟩
      clear HD
      go_wp2_with fail
      go_roundw
      case rel => exact ⟨.inr (.inr (.inr (rfl))), HB5.out⟩
      case measure => simp [intOf]
    · obtain ⟨k4, hk4⟩ : ∃ k4, n / 4294967296 = k4 := ⟨_, rfl⟩
      have HK4 := Lib.hid hk4
      obtain ⟨s4, s4z, hPut, c1, c, hc1, hc2, hGet⟩ := back_s32 a b has hbs k4 (by omega) (by omega)
      have HPut := Lib.hid hPut
      have HGet := Lib.hid hGet
      have HM : Hid ((u.size : Int) + m = (u.size + m : Nat)) := Lib.hid (by omega)
      clear hPut hGet hn1 hn2 hk4
      go_wp2_with fail
      rw [HK4.out]
      refine (HPut.out _).mono ?_
      rintro e w3 ⟨rfl, hb⟩
      have HB3 := Lib.hid (bwithC HB2.out hb)
      clear hb HB2
      go_wp2_with fail
      refine (says_any _ _).mono ?_
      rintro e w4 ⟨b4, rfl, hb, hl, hc⟩
      have HB4 := Lib.hid (bwithC HB3.out hb)
      have HC := Lib.hid hc
      have HL := Lib.hid hl
      clear hb hc hl HB3
      go_wp2_with fail
      refine (HGet.out _).mono ?_
      rintro e w5 ⟨rfl, hb⟩
      have HB5 := Lib.hid (bwithC HB4.out hb)
      have HD := Lib.hid ((hb.block b4 HL.out).trans HC.out)
      clear hb HC HL HB4
      go_wp2_with fail
      refine (says1_yes _ _ _ HD.out).mono ?_
      rintro e w6 ⟨rfl, rfl⟩
      clear HD
      clear HPut HGet hc1 hc2
      obtain ⟨M, hM⟩ : ∃ M, u.size + m = M := ⟨_, rfl⟩
      rw [hM] at HM
      have HWM : Hid (wrap64 (M : Int) = M) := Lib.hid (IntWalk.wrap64_in _ (by omega))
      rcases hp : prn (asc u.data.toList) with _ | _
      · have HPut : Hid (∀ W : World, Calls Tryd.prog 25 #[.string u, .int .i64 M] W fun e w' => e = .returned (.tuple #[.string ⟨#[]⟩, .int .i64 5]) ∧ Below W.heap.size W w') := fun W => by
          have h := ptext_any u M (by omega) W
          rwa [show ptS u M = ⟨#[]⟩ by unfold ptS; rw [if_neg (by omega), if_pos hp], show ptE u M = 5 by unfold ptE; rw [if_neg (by omega), if_pos hp]] at h
        have HTr : Hid (∀ W : World, _) := fun (W : World) => trimA_any (prs 95) (by rw [prs_len]; omega) (by rw [prs_len]; omega) prs_ascii u (by omega) (bad_of u hp) W
        clear hp hM has hbs hus
        go_wp2_with fail
        rw [HM.out, HWM.out]
        refine (HPut.out _).mono ?_
        rintro e w7 ⟨rfl, hb⟩
        have HB7 := Lib.hid (bwithC HB5.out hb)
        clear hb HB5
        go_wp2_with fail
        refine (fails_any _ _).mono ?_
        rintro e w8 ⟨b8, rfl, hb, hl, hc⟩
        have HB8 := Lib.hid (bwithC HB7.out hb)
        have HC := Lib.hid hc
        clear hb hc hl HB7
        go_wp2_with fail
        refine (fails1_yes _ _ _ HC.out).mono ?_
        rintro e w9 ⟨rfl, rfl⟩
        clear HC
        go_wp2_with fail
        refine (printable_any _).mono ?_
        rintro e w10 ⟨rfl, hb⟩
        have HB10 := Lib.hid (bwithC HB8.out hb)
        clear hb HB8
        generalize (⟨(prs 95).toArray⟩ : ByteArray) = cs at *
        go_wp2_with fail
        refine (HTr.out _).mono ?_
        rintro e w11 ⟨r, rfl, hr, hb⟩
        have HB11 := Lib.hid (bwithC HB10.out hb)
        have hre := ne_empty hr
        clear hb HB10 hr
        go_wp2_with fail
        go_ret
        exact ⟨rfl, HB11.out⟩
      · obtain ⟨c1, c, hc1, hc2, hce, hcs⟩ := mid_cat a b (u ++ zb m) has hbs (by rw [ByteArray.size_append, zb_size]; omega)
        have hfs : (u ++ zb m).size = M := by rw [ByteArray.size_append, zb_size, hM]
        obtain ⟨g1, g2⟩ := mid_text a u b m hp (hce ▸ hcs)
        obtain ⟨g3, g4⟩ := mid_part a (u ++ zb m) b (hce ▸ hcs)
        rw [hM] at g1 g2
        rw [hfs] at g3 g4
        rw [← hce] at g1 g2 g3 g4
        have HPut : Hid (∀ W : World, Calls Tryd.prog 25 #[.string u, .int .i64 M] W fun e w' => e = .returned (.tuple #[.string (u ++ zb m), .int .i64 0]) ∧ Below W.heap.size W w') := fun W => by
          have h := ptext_any u M (by omega) W
          rwa [show ptS u M = u ++ zb m by unfold ptS; rw [if_neg (by omega), if_neg (by rw [hp]; decide), if_neg (by omega), show ((M : Int) - u.size).toNat = m by omega], show ptE u M = 0 by unfold ptE; rw [if_neg (by omega), if_neg (by rw [hp]; decide), if_neg (by omega)]] at h
        have HTx : Hid (∀ W : World, Calls Tryd.prog 33 #[.string c, .int .i64 a.size, .int .i64 M] W fun e w' => e = .returned (.tuple #[.string u, .int .i64 0]) ∧ Below W.heap.size W w') := fun W => by
          have h := text_any c a.size M W
          rwa [g1, g2] at h
        have HPa : Hid (∀ W : World, Calls Tryd.prog 8 #[.string c, .int .i64 a.size, .int .i64 M] W fun e w' => e = .returned (.tuple #[.string (u ++ zb m), .int .i64 0]) ∧ W = w') := fun W => by
          have h := part_any c a.size M W
          rwa [g3, g4] at h
        generalize u ++ zb m = f at *
        clear hp hM has hbs hus g1 g2 g3 g4 hce hcs
        go_wp2_with fail
        rw [HM.out, HWM.out]
        refine (HPut.out _).mono ?_
        rintro e w7 ⟨rfl, hb⟩
        have HB7 := Lib.hid (bwithC HB5.out hb)
        clear hb HB5
        go_wp2_with fail
        refine (is_any _ _).mono ?_
        rintro e w8 ⟨b8, rfl, hb, hl, hc⟩
        have HB8 := Lib.hid (bwithC HB7.out hb)
        have HC := Lib.hid hc
        have HL := Lib.hid hl
        clear hb hc hl HB7
        go_wp2_with fail
        refine (HTx.out _).mono ?_
        rintro e w9 ⟨rfl, hb⟩
        have HB9 := Lib.hid (bwithC HB8.out hb)
        have HD := Lib.hid ((hb.block b8 HL.out).trans HC.out)
        clear hb HC HL HB8
        go_wp2_with fail
        refine (is1_yes _ _ _ HD.out).mono ?_
        rintro e w10 ⟨rfl, rfl⟩
        clear HD
        go_wp2_with fail
        refine (is_any _ _).mono ?_
        rintro e w11 ⟨b11, rfl, hb, hl, hc⟩
        have HB11 := Lib.hid (bwithC HB9.out hb)
        have HC := Lib.hid hc
        clear hb hc hl HB9
        go_wp2_with fail
        refine (HPa.out _).mono ?_
        rintro e w12 ⟨rfl, rfl⟩
        go_wp2_with fail
        refine (is1_yes _ _ _ HC.out).mono ?_
        rintro e w13 ⟨rfl, rfl⟩
        clear HC
        go_wp2_with fail
        go_ret
        exact ⟨rfl, HB11.out⟩
end Go.Proofs.YtgjfhamophknfaaDoor
