/- Walks: the statements' octets of a Long. -/
import Derived.Deep.RegionHeld3
import Derived.Deep.DeepCutAuto
import Derived.Test.YtgjfhamophknfaaDoorC0
namespace Go.Proofs.YtgjfhamophknfaaDoor
open Go.RowKit

theorem repeatL_len (l : List UInt8) : ∀ z, (Lib.repeatL l z).length = z * l.length
  | 0 => by simp [Lib.repeatL]
  | z+1 => by rw [Lib.repeatL, List.length_append, repeatL_len l z, Nat.succ_mul]; omega
theorem repeat_any (s : ByteArray) (c : Nat) (hc : c * s.size ≤ 65700) (h0 : c ≤ 65700) (w : World) :
    Calls Tryd.prog 28 #[.string s, .int .i64 c] w fun e w' => ∃ r : ByteArray, e = .returned (.string r) ∧ r.size ≤ c * s.size ∧ Below w.heap.size w w' := by
  refine (Tryd.strings_Repeat s c w (by omega) (by rw [Nat.mul_comm]; omega)).mono ?_
  rintro e w' ⟨rfl, hB⟩
  refine ⟨_, rfl, ?_, hB⟩
  have : (ByteArray.mk (Lib.repeatL s.data.toList c).toArray).size = c * s.size := by
    show (Lib.repeatL s.data.toList c).toArray.size = _
    rw [List.size_toArray, repeatL_len]; rfl
  omega

set_option maxRecDepth 100000 in
set_option maxHeartbeats 1000000 in
theorem octetsL_any (S L : ByteArray) (T : Nat) (hT : T < 65536) (hS : S.size ≤ 140737488355328) (hL : L.size ≤ 140737488355328) (w : World) :
    Calls Tryd.prog 24 #[.agg #[.string S, .string L, .int .u16 T]] w fun e w' => ∃ t, e = .returned (.string t) ∧ t.size ≤ 66000 ∧ Below w.heap.size w w' := by
  obtain ⟨m, hm⟩ : ∃ m : Nat, m = 65700 := ⟨_, rfl⟩
  have hml : m ≤ 65700 := by omega
  have Hm : Hid ((m : Int) = 65700) := Lib.hid (by omega)
  rw [show 66000 = m + 300 by omega]
  clear hm
  have HC := Lib.hid (heap_alloc_at w (.cells #[.string S, .string L, .int .u16 T] 39) w.heap.size rfl)
  have hqs : (S.extract 0 (min (S.size : Int) 300).toNat).size ≤ 300 := by rw [ByteArray.size_extract]; omega
  obtain ⟨q, hq⟩ : ∃ q, S.extract 0 (min (S.size : Int) 300).toNat = q := ⟨_, rfl⟩
  rw [hq] at hqs
  have Hq := Lib.hid hq
  clear hq
  go_enter Tryd.func24, Tryd.ntmps24
  go_wp2_with fail
  rw [Hq.out, ← Hm.out]
  have hM : max (q.size : Int) 1 = ((max q.size 1 : Nat) : Int) := by omega
  have hM1 : 1 ≤ max q.size 1 := by omega
  have hMq : q.size ≤ max q.size 1 := by omega
  generalize max q.size 1 = M at *
  have hQ : (m : Int).tdiv (M : Int) = ((m / M : Nat) : Int) := by rw [Int.tdiv_eq_ediv_of_nonneg (by omega)]; simp
  have hQM : m / M * M ≤ m := Nat.div_mul_le_self m M
  generalize m / M = Q at *
  have hz : min (T : Int) (Q : Int) = ((min T Q : Nat) : Int) := by omega
  have hz2 : min T Q * q.size ≤ m := Nat.le_trans (Nat.mul_le_mul (Nat.min_le_right _ _) hMq) hQM
  have hz3 : min T Q ≤ 65536 := by omega
  generalize min T Q = z at *
  have HR : Hid (∀ W : World, _) := fun (W : World) => repeat_any q z (by omega) (by omega) W
  have HZ := Lib.hid hz2
  have hy : min (L.size : Int) 300 = ((min L.size 300 : Nat) : Int) := by omega
  have hy1 : min L.size 300 ≤ 300 := by omega
  have hy2 : min L.size 300 ≤ L.size := by omega
  generalize min L.size 300 = y at *
  have hy3 : (y : Int) ≤ L.size := by omega
  have hy4 : (0 : Int) ≤ y := by omega
  have hls : (L.extract 0 y).size ≤ 300 := by rw [ByteArray.size_extract]; omega
  have hcv : IntKind.i64.wrap (T : Int) = T := IntWalk.i64_in _ (by omega)
  have hcv2 : wrap64 (T : Int) = T := IntWalk.wrap64_in _ (by omega)
  obtain ⟨B, hB⟩ : ∃ B, w.alloc (.cells #[.string S, .string L, .int .u16 T] 39) = B := ⟨_, rfl⟩
  have hBs : B.heap.size = w.heap.size + 1 := by rw [← hB]; simp
  have hBB : Hid (Below w.heap.size w B) := Lib.hid (hB ▸ (Below.refl _ _).alloc (Nat.le_refl _) _)
  have hBC := HC.out
  rw [hB] at hBC
  rw [hB]
  have HBS := Lib.hid hBs
  have HBC := Lib.hid hBC
  have hlt : w.heap.size < B.heap.size := by omega
  have hMn : ¬ M = 0 := by omega
  have hMb : ((M : Int) == 0) = false := by rw [beq_eq_false_iff_ne]; omega
  have hQ0 : Q ≤ 65700 := Nat.le_trans (Nat.le_trans (Nat.le_mul_of_pos_right Q (by omega)) hQM) hml
  have hQ2 : IntKind.i64.wrap (Q : Int) = Q := IntWalk.i64_in _ (by omega)
  have hQ3 : wrap64 (Q : Int) = Q := IntWalk.wrap64_in _ (by omega)
  clear hB hBs hBC HC hz2 hMq hQM hM1
  have D1 : ∀ W, Below B.heap.size B W → W.cell? ⟨w.heap.size, 1, none⟩ = some (.string L) := fun W h => (h.cell (p := ⟨w.heap.size, 1, none⟩) hlt).trans (cell_of_row _ _ 1 _ _ _ HBC.out)
  have D2 : ∀ W, Below B.heap.size B W → W.cell? ⟨w.heap.size, 2, none⟩ = some (.int .u16 T) := fun W h => (h.cell (p := ⟨w.heap.size, 2, none⟩) hlt).trans (cell_of_row _ _ 2 _ _ _ HBC.out)
  have hrefl : Below B.heap.size B B := Below.refl _ _
  have hreflD : Below B.heap.size B B.drew := (Below.refl _ _).drew
  go_cut [2] (fun x2 W => ∃ t : ByteArray, x2 = .string t ∧ t.size ≤ m + 300 ∧ Below B.heap.size B W)
  case first =>
    go_region_held3 (fun W => Below B.heap.size B W) (first | with_reducible exact hrefl | with_reducible exact hreflD | with_reducible exact HB2) ((go_at_call 28; refine (HR.out _).mono ?_; rintro e w2 ⟨r, rfl, hr, hB2⟩; have HB2 : Below B.heap.size B w2 := hreflD.trans hB2; have hr2 : r.size ≤ m := Nat.le_trans hr HZ.out; have hadd : ∀ W, (Op.stringOp .add r (L.extract 0 y)).run Tryd.prog W = .ok (.string (r ++ L.extract 0 y)) W := (fun W => run_string_add W _ _ (by omega) (by omega)); clear hB2))
    all_goals go_wp2_with fail
    all_goals go_meet
    all_goals exact ⟨_, rfl, by rw [ByteArray.size_append]; omega, HB2⟩
  case rest =>
    obtain ⟨t, rfl, ht, hB3⟩ := hcut
    clear D1 D2
    go_wp2_with fail
    go_ret
    exact ⟨_, rfl, ht, hBB.out.trans (hB3.mono (by omega))⟩
end Go.Proofs.YtgjfhamophknfaaDoor
