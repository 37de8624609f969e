/- Law OctetWrites: the walk. -/
import Derived.Test.YtgjfhamophknfaaDoorC2
import Derived.Test.YtgjfhamophknfaaDoorEq
namespace Go.Proofs.YtgjfhamophknfaaDoor
open Go.RowKit

theorem bwith {w w1 w2 : World} (h1 : Below w.heap.size w w1) (h2 : Below w1.heap.size w1 w2) : Below w.heap.size w w2 := h1.trans (h2.mono h1.size)
theorem eq_refl_list (a : ByteArray) : (a.toList == a.toList) = true := by simp

set_option maxRecDepth 100000 in
set_option maxHeartbeats 4000000 in
theorem writes_walk (S L : ByteArray) (T : Nat) (n k : Int) (hT : T < 65536) (hS : S.size ≤ 140737488355328) (hL : L.size ≤ 140737488355328) (w : World) :
    Calls Tryd.prog 4 #[.agg #[.string S, .string L, .int .u16 T], .int .i64 n, .int .i64 k] w fun e w' => e = .returned (.bool true) ∧ Below w.heap.size w w' := by
  have J0 := Lib.hid ((Iv.start w).new #[.string S, .string L, .int .u16 T] 39)
  go_enter Tryd.func4, Tryd.ntmps4
  go_wp2_with fail
  refine (works_any _).mono ?_
  rintro e w1 ⟨rfl, hb⟩
  have J1 := Lib.hid (J0.out.call hb)
  clear hb J0
  go_wp2_with fail
  obtain ⟨R, hR⟩ : ∃ R : Array Value, #[Value.int .i64 n, .int .i64 (n / 4294967296), .int .i64 (n / 281474976710656), .int .i64 (n / 72057594037927936)] = R := ⟨_, rfl⟩
  have HR : Hid (∀ i, i < 4 → ∃ x : Int, R[i]? = some (.int .i64 x)) := Lib.hid (by
    intro i hi
    subst hR
    match i, hi with
    | 0, _ => exact ⟨_, rfl⟩
    | 1, _ => exact ⟨_, rfl⟩
    | 2, _ => exact ⟨_, rfl⟩
    | 3, _ => exact ⟨_, rfl⟩)
  rw [hR]
  clear hR
  go_loopw [37] (fun x37 W => ∃ i : Nat, i ≤ 4 ∧ x37 = .int .i64 i ∧ Iv w W [(w.heap.size, #[.string S, .string L, .int .u16 T], 39)]) (fun x37 _ => 4 - (intOf x37).toNat)
  case atStart => exact ⟨0, by omega, rfl, J1.out⟩
  case round =>
    obtain ⟨i, hi, rfl, hI⟩ := hrel
    have J2 := Lib.hid hI
    clear hI J1
    by_cases hlt : i < 4
    · obtain ⟨x, hx⟩ := HR.out i hlt
      have hlt' : (i : Int) < 4 := by omega
      have hix := fun W => run_index_one (P := Tryd.prog) (n := 4) Tryd.underlying40 Tryd.isAgg3 Tryd.sizeOf3 R i (.int .i64 x) hlt hx W
      have H8 : Hid (∀ W : World, _) := fun (W : World) => pu8_any x W
      have H8I : Hid (∀ W : World, _) := fun (W : World) => pu8I_any x W
      have H16 : Hid (∀ W : World, _) := fun (W : World) => pu16_any x W
      have H16I : Hid (∀ W : World, _) := fun (W : World) => pu16I_any x W
      have H32 : Hid (∀ W : World, _) := fun (W : World) => pu32_any x W
      have H32I : Hid (∀ W : World, _) := fun (W : World) => pu32I_any x W
      have HS : Hid (∀ W : World, _) := fun (W : World) => ps32_any x W
      have HSI : Hid (∀ W : World, _) := fun (W : World) => ps32I_any x W
      generalize puS 255 1 x = s1 at *
      generalize puE 255 x = e1 at *
      generalize puS 65535 2 x = s2 at *
      generalize puE 65535 x = e2 at *
      generalize puS 4294967295 4 x = s3 at *
      generalize puE 4294967295 x = e3 at *
      generalize psS x = s4 at *
      generalize psE x = e4 at *
      clear hx
      go_wp2_with fail
      go_loopw [41] (fun x41 W => (x41 = .int .i64 0 ∨ x41 = .int .i64 1 ∨ x41 = .int .i64 2 ∨ x41 = .int .i64 3 ∨ x41 = .int .i64 4) ∧ Iv w W [(w.heap.size, #[.string S, .string L, .int .u16 T], 39)]) (fun x41 _ => (4 - intOf x41).toNat)
      case atStart => exact ⟨.inl rfl, J2.out⟩
      case round =>
        obtain ⟨hj, hI⟩ := hrel
        have J3 := Lib.hid hI
        clear hI J2
        rcases hj with rfl | rfl | rfl | rfl | rfl
        · have hf : ∀ W, (Instr.index 42 (.agg #[Value.func (.func 16) #[] #[], .func (.func 17) #[] #[], .func (.func 18) #[] #[], .func (.func 19) #[] #[]]) (.int .i64 0)).run Tryd.prog W = .ok (.func (.func 16) #[] #[]) W := fun W => rfl
          have hg : ∀ W, (Instr.index 42 (.agg #[Value.func (.func 20) #[] #[], .func (.func 21) #[] #[], .func (.func 22) #[] #[], .func (.func 23) #[] #[]]) (.int .i64 0)).run Tryd.prog W = .ok (.func (.func 20) #[] #[]) W := fun W => rfl
          go_wp2_with fail
          refine (H8.out _).mono ?_
          rintro e w2 ⟨rfl, hb⟩
          have J4 := Lib.hid (J3.out.call hb)
          clear hb J3
          go_wp2_with fail
          refine (H8I.out _).mono ?_
          rintro e w3 ⟨rfl, hb⟩
          have J5 := Lib.hid (J4.out.call hb)
          clear hb J4
          go_wp2_with fail
          go_roundw
          case rel => exact ⟨.inr (.inl rfl), J5.out⟩
          case measure => simp [intOf]
        · have hf : ∀ W, (Instr.index 42 (.agg #[Value.func (.func 16) #[] #[], .func (.func 17) #[] #[], .func (.func 18) #[] #[], .func (.func 19) #[] #[]]) (.int .i64 1)).run Tryd.prog W = .ok (.func (.func 17) #[] #[]) W := fun W => rfl
          have hg : ∀ W, (Instr.index 42 (.agg #[Value.func (.func 20) #[] #[], .func (.func 21) #[] #[], .func (.func 22) #[] #[], .func (.func 23) #[] #[]]) (.int .i64 1)).run Tryd.prog W = .ok (.func (.func 21) #[] #[]) W := fun W => rfl
          go_wp2_with fail
          refine (H16.out _).mono ?_
          rintro e w2 ⟨rfl, hb⟩
          have J4 := Lib.hid (J3.out.call hb)
          clear hb J3
          go_wp2_with fail
          refine (H16I.out _).mono ?_
          rintro e w3 ⟨rfl, hb⟩
          have J5 := Lib.hid (J4.out.call hb)
          clear hb J4
          go_wp2_with fail
          go_roundw
          case rel => exact ⟨.inr (.inr (.inl rfl)), J5.out⟩
          case measure => simp [intOf]
        · have hf : ∀ W, (Instr.index 42 (.agg #[Value.func (.func 16) #[] #[], .func (.func 17) #[] #[], .func (.func 18) #[] #[], .func (.func 19) #[] #[]]) (.int .i64 2)).run Tryd.prog W = .ok (.func (.func 18) #[] #[]) W := fun W => rfl
          have hg : ∀ W, (Instr.index 42 (.agg #[Value.func (.func 20) #[] #[], .func (.func 21) #[] #[], .func (.func 22) #[] #[], .func (.func 23) #[] #[]]) (.int .i64 2)).run Tryd.prog W = .ok (.func (.func 22) #[] #[]) W := fun W => rfl
          go_wp2_with fail
          refine (H32.out _).mono ?_
          rintro e w2 ⟨rfl, hb⟩
          have J4 := Lib.hid (J3.out.call hb)
          clear hb J3
          go_wp2_with fail
          refine (H32I.out _).mono ?_
          rintro e w3 ⟨rfl, hb⟩
          have J5 := Lib.hid (J4.out.call hb)
          clear hb J4
          go_wp2_with fail
          go_roundw
          case rel => exact ⟨.inr (.inr (.inr (.inl rfl))), J5.out⟩
          case measure => simp [intOf]
        · have hf : ∀ W, (Instr.index 42 (.agg #[Value.func (.func 16) #[] #[], .func (.func 17) #[] #[], .func (.func 18) #[] #[], .func (.func 19) #[] #[]]) (.int .i64 3)).run Tryd.prog W = .ok (.func (.func 19) #[] #[]) W := fun W => rfl
          have hg : ∀ W, (Instr.index 42 (.agg #[Value.func (.func 20) #[] #[], .func (.func 21) #[] #[], .func (.func 22) #[] #[], .func (.func 23) #[] #[]]) (.int .i64 3)).run Tryd.prog W = .ok (.func (.func 23) #[] #[]) W := fun W => rfl
          go_wp2_with fail
          refine (HS.out _).mono ?_
          rintro e w2 ⟨rfl, hb⟩
          have J4 := Lib.hid (J3.out.call hb)
          clear hb J3
          go_wp2_with fail
          refine (HSI.out _).mono ?_
          rintro e w3 ⟨rfl, hb⟩
          have J5 := Lib.hid (J4.out.call hb)
          clear hb J4
          go_wp2_with fail
          go_roundw
          case rel => exact ⟨.inr (.inr (.inr (.inr rfl))), J5.out⟩
          case measure => simp [intOf]
        · go_wp2_with fail
          go_roundw
          case rel => exact ⟨i + 1, by omega, by go_num, J3.out⟩
          case measure => simp [intOf]; omega
    · obtain rfl : i = 4 := by omega
      clear hlt hi
      rw [show ((4 : Nat) : Int) = 4 from rfl]
      go_wp2_with fail
      have HO : Hid (∀ W : World, _) := fun (W : World) => octetsL_any S L T hT hS hL W
      have hlt : w.heap.size < wr.heap.size := J2.out.lt 0 rfl
      have hy : min (L.size : Int) 300 = ((min L.size 300 : Nat) : Int) := by omega
      have hy1 : min L.size 300 ≤ 300 := by omega
      have hy2 : min L.size 300 ≤ L.size := by omega
      generalize min L.size 300 = y at *
      have hy3 : (y : Int) ≤ L.size := by omega
      have hy4 : (0 : Int) ≤ y := by omega
      have hls : (L.extract 0 y).size ≤ 66000 := by rw [ByteArray.size_extract]; omega
      have D0 : ∀ W, Below wr.heap.size wr W → W.cell? ⟨w.heap.size, 0, none⟩ = some (.string S) := fun W h => (h.cell (p := ⟨w.heap.size, 0, none⟩) hlt).trans (J2.out.cell 0 rfl 0 rfl)
      have D1 : ∀ W, Below wr.heap.size wr W → W.cell? ⟨w.heap.size, 1, none⟩ = some (.string L) := fun W h => (h.cell (p := ⟨w.heap.size, 1, none⟩) hlt).trans (J2.out.cell 0 rfl 1 rfl)
      have D2 : ∀ W, Below wr.heap.size wr W → W.cell? ⟨w.heap.size, 2, none⟩ = some (.int .u16 T) := fun W h => (h.cell (p := ⟨w.heap.size, 2, none⟩) hlt).trans (J2.out.cell 0 rfl 2 rfl)
      have hrefl : Below wr.heap.size wr wr := Below.refl _ _
      have hreflD : Below wr.heap.size wr wr.drew := (Below.refl _ _).drew
      have HJ := Lib.hid J2.out.below
      clear J2
      go_cut [78, 79] (fun x78 x79 W => ∃ t u : ByteArray, x78 = .agg #[.string t, .string u] ∧ x79 = .int .i64 0 ∧ t.size ≤ 66000 ∧ u.size ≤ 66000 ∧ Below wr.heap.size wr W)
      case first =>
        go_region_held3 (fun W => Below wr.heap.size wr W) (first | with_reducible exact hrefl | with_reducible exact hreflD | with_reducible exact HB2) ((go_at_call 24; refine (HO.out _).mono ?_; rintro e w2 ⟨t, rfl, ht, hB2⟩; have HB2 : Below wr.heap.size wr w2 := hreflD.trans hB2; clear hB2))
        all_goals go_wp2_with fail
        all_goals go_meet
        all_goals exact ⟨_, _, rfl, rfl, ht, hls, HB2⟩
      case rest =>
        obtain ⟨t, u, rfl, rfl, ht, hu, hB2⟩ := hcut
        have HB2 : Hid (Below w.heap.size w wc) := Lib.hid (bwith HJ.out hB2)
        clear hB2 D0 D1 D2 hrefl hreflD hls HO hlt HJ hy hy1 hy2 hy3 hy4
        go_wp2_with fail
        go_loopw [79] (fun x79 W => ∃ i : Nat, i ≤ 2 ∧ x79 = .int .i64 i ∧ Below w.heap.size w W) (fun x79 _ => 2 - (intOf x79).toNat)
        case atStart => exact ⟨0, by omega, rfl, HB2.out⟩
        case round =>
          obtain ⟨i, hi, rfl, hI⟩ := hrel
          have HB3 := Lib.hid hI
          clear hI HB2
          by_cases hlt : i < 2
          · have hlt' : (i : Int) < 2 := by omega
            obtain ⟨s, hs, hsz⟩ : ∃ s : ByteArray, (#[Value.string t, .string u] : Array Value)[i]? = some (.string s) ∧ s.size ≤ 66000 := by
              match i, hlt with
              | 0, _ => exact ⟨t, rfl, ht⟩
              | 1, _ => exact ⟨u, rfl, hu⟩
            have hix := fun W => run_index_one (P := Tryd.prog) (n := 2) Tryd.underlying44 Tryd.isAgg9 Tryd.sizeOf9 #[Value.string t, .string u] i (.string s) hlt hs W
            clear hs ht hu
            go_wp2_with fail
            obtain ⟨R3, hR3⟩ : ∃ R3 : Array Value, #[Value.int .i64 k, .int .i64 (wrap64 ((IntKind.u64.wrap k).tmod 70)), .int .i64 (wrap64 (wrap64 ((s.size : Int) + wrap64 ((IntKind.u64.wrap k).tmod 5)) - 2))] = R3 := ⟨_, rfl⟩
            have HR3 : Hid (∀ j, j < 3 → ∃ x : Int, R3[j]? = some (.int .i64 x)) := Lib.hid (by
              intro j hj
              subst hR3
              match j, hj with
              | 0, _ => exact ⟨_, rfl⟩
              | 1, _ => exact ⟨_, rfl⟩
              | 2, _ => exact ⟨_, rfl⟩)
            rw [hR3]
            clear hR3 hix
            go_loopw [96] (fun x96 W => ∃ j : Nat, j ≤ 3 ∧ x96 = .int .i64 j ∧ Below w.heap.size w W) (fun x96 _ => 3 - (intOf x96).toNat)
            case atStart => exact ⟨0, by omega, rfl, HB3.out⟩
            case round =>
              obtain ⟨j, hj, rfl, hI⟩ := hrel
              have HB4 := Lib.hid hI
              clear hI HB3
              by_cases hlj : j < 3
              · have hlj' : (j : Int) < 3 := by omega
                obtain ⟨m, hm⟩ := HR3.out j hlj
                have hix := fun W => run_index_one (P := Tryd.prog) (n := 3) Tryd.underlying45 Tryd.isAgg3 Tryd.sizeOf3 R3 j (.int .i64 m) hlj hm W
                have HT1 : Hid (∀ W : World, _) := fun (W : World) => ptext_any s m (by omega) W
                have HT2 : Hid (∀ W : World, _) := fun (W : World) => ptextI_any s m (by omega) W
                have HP1 : Hid (∀ W : World, _) := fun (W : World) => pad_any s m W
                have HP2 : Hid (∀ W : World, _) := fun (W : World) => padI_any s m W
                generalize ptS s m = s1 at *
                generalize ptE s m = e1 at *
                generalize padS s m = s2 at *
                generalize padE s m = e2 at *
                clear hm
                go_wp2_with fail
                refine (HT1.out _).mono ?_
                rintro e w2 ⟨rfl, hb⟩
                have HB5 := Lib.hid (bwith HB4.out hb)
                clear hb HB4
                go_wp2_with fail
                refine (HT2.out _).mono ?_
                rintro e w3 ⟨rfl, hb⟩
                have HB6 := Lib.hid (bwith HB5.out hb)
                clear hb HB5
                go_wp2_with fail
                refine (HP1.out _).mono ?_
                rintro e w4 ⟨rfl, hb⟩
                have HB7 := Lib.hid (bwith HB6.out hb)
                clear hb HB6
                go_wp2_with fail
                refine (HP2.out _).mono ?_
                rintro e w5 ⟨rfl, hb⟩
                have HB8 := Lib.hid (bwith HB7.out hb)
                clear hb HB7
                go_wp2_with fail
                go_roundw
                case rel => exact ⟨j + 1, by omega, by go_num, HB8.out⟩
                case measure => simp [intOf]; omega
              · obtain rfl : j = 3 := by omega
                clear hlj hj
                go_wp2_with fail
                go_roundw
                case rel => exact ⟨i + 1, by omega, by go_num, HB4.out⟩
                case measure => simp [intOf]; omega
          · obtain rfl : i = 2 := by omega
            clear hlt hi
            go_wp2_with fail
            go_ret
            exact ⟨rfl, HB3.out⟩
end Go.Proofs.YtgjfhamophknfaaDoor
