/- The walk of the statement DigestPieces. -/
import Derived.Test.YtfhddcjepgjfnaaDoorIv
import Derived.Test.YtfhddcjepgjfnaaDoorA33
import Derived.Test.YtfhddcjepgjfnaaDoorA19
import Derived.Deep.RegionWith
namespace Go.Proofs.YtfhddcjepgjfnaaDoor
open Go.RowKit Md

theorem range_of {W : World} {b : Nat} {cs : List Value} {t : TypeId} (h : W.heap[b]? = some (.cells cs.toArray t (0, 0))) : W.rangeAt b 0 cs := fun j v hv => by
  rw [Nat.zero_add]
  exact (cell_of_row _ _ _ _ _ _ h).trans (by simpa using hv)
theorem list16 (l : List Nat) (h : l.length = 16) : ∃ q0 q1 q2 q3 q4 q5 q6 q7 q8 q9 q10 q11 q12 q13 q14 q15 : Nat, l = [q0, q1, q2, q3, q4, q5, q6, q7, q8, q9, q10, q11, q12, q13, q14, q15] := by
  match l, h with
  | [q0, q1, q2, q3, q4, q5, q6, q7, q8, q9, q10, q11, q12, q13, q14, q15], _ => exact ⟨q0, q1, q2, q3, q4, q5, q6, q7, q8, q9, q10, q11, q12, q13, q14, q15, rfl⟩
abbrev four (a1 b1 c1 d1 n1 a2 b2 c2 d2 n2 a3 b3 c3 d3 n3 a4 b4 c4 d4 n4 : Int) (r1 r2 r3 r4 : ByteArray) : Array Value := #[.int .i64 a1, .int .i64 b1, .int .i64 c1, .int .i64 d1, .int .i64 n1, .string r1, .int .i64 a2, .int .i64 b2, .int .i64 c2, .int .i64 d2, .int .i64 n2, .string r2, .int .i64 a3, .int .i64 b3, .int .i64 c3, .int .i64 d3, .int .i64 n3, .string r3, .int .i64 a4, .int .i64 b4, .int .i64 c4, .int .i64 d4, .int .i64 n4, .string r4]
theorem four_at (a1 b1 c1 d1 n1 a2 b2 c2 d2 n2 a3 b3 c3 d3 n3 a4 b4 c4 d4 n4 : Int) (r1 r2 r3 r4 : ByteArray) (hr : r1.size ≤ 70 ∧ r2.size ≤ 70 ∧ r3.size ≤ 70 ∧ r4.size ≤ 70) (k : Nat) (hk : k < 4) : ∃ (a b c d n : Int) (r : ByteArray), r.size ≤ 70 ∧ ∀ W, (Instr.index 46 (.agg (four a1 b1 c1 d1 n1 a2 b2 c2 d2 n2 a3 b3 c3 d3 n3 a4 b4 c4 d4 n4 r1 r2 r3 r4)) (.int .i64 k)).run Tryd.prog W = .ok (.agg #[.int .i64 a, .int .i64 b, .int .i64 c, .int .i64 d, .int .i64 n, .string r]) W := by
  match k, hk with
  | 0, _ => exact ⟨a1, b1, c1, d1, n1, r1, hr.1, fun W => by kernel_rfl⟩
  | 1, _ => exact ⟨a2, b2, c2, d2, n2, r2, hr.2.1, fun W => by kernel_rfl⟩
  | 2, _ => exact ⟨a3, b3, c3, d3, n3, r3, hr.2.2.1, fun W => by kernel_rfl⟩
  | 3, _ => exact ⟨a4, b4, c4, d4, n4, r4, hr.2.2.2, fun W => by kernel_rfl⟩

set_option maxRecDepth 100000 in
set_option maxHeartbeats 4000000 in
theorem pieces_any (S L t : ByteArray) (T A B : Nat) (N a b c d n : Int) (r : ByteArray) (hT : T < 65536) (hS : S.size ≤ 140737488355328) (hL : L.size ≤ 140737488355328) (ht : t.size ≤ 140737488355328) (hr : r.size ≤ 140737488355328) (hA : A < 256) (hB : B < 256) (w : World) (hK : HasK w) :
    Calls Tryd.prog 5 #[.agg #[.string S, .string L, .int .u16 T], .string t, .agg #[.int .u8 A, .int .u8 B, .int .i64 N], .agg #[.int .i64 a, .int .i64 b, .int .i64 c, .int .i64 d, .int .i64 n, .string r]] w fun e w' => e = .returned (.bool true) ∧ Below w.heap.size w w' := by
  have HK := Lib.hid hK
  have hp := hK.pos
  have HO : Hid (∀ W : World, _) := fun (W : World) => octetsL_any false S L T hT hS hL W
  have hy : min (t.size : Int) 300 = ((min t.size 300 : Nat) : Int) := by omega
  have hy1 : min t.size 300 ≤ 300 := by omega
  have hy2 : min t.size 300 ≤ t.size := by omega
  generalize min t.size 300 = y at *
  have hy3 : (y : Int) ≤ t.size := by omega
  have hy4 : (0 : Int) ≤ y := by omega
  have hz : min (r.size : Int) 70 = ((min r.size 70 : Nat) : Int) := by omega
  have hz1 : min r.size 70 ≤ 70 := by omega
  have hz2 : min r.size 70 ≤ r.size := by omega
  generalize min r.size 70 = z at *
  have hz3 : (z : Int) ≤ r.size := by omega
  have hz4 : (0 : Int) ≤ z := by omega
  have hrz : (r.extract 0 z).size ≤ 70 := by rw [ByteArray.size_extract]; omega
  have hty : (t.extract 0 y).size ≤ 300 := by rw [ByteArray.size_extract]; omega
  have i0 := (((Iv.start w).new (#[.string S, .string L, .int .u16 T]) 24).new (#[.int .u8 A, .int .u8 B, .int .i64 N]) 38).new (#[.int .i64 a, .int .i64 b, .int .i64 c, .int .i64 d, .int .i64 n, .string r]) 41
  simp only [World.size_alloc] at i0
  have I0 := Lib.hid i0
  clear hK i0
  go_enter Tryd.func5, Tryd.ntmps5
  go_wp2_with fail
  refine (works_any _ (HK.out.below I0.out.below hp)).mono ?_
  rintro e w1 ⟨rfl, hb1⟩
  have I1 := Lib.hid (I0.out.call hb1)
  have q5 := I1.out.cell 0 rfl 5 rfl
  have p5 := I1.out.free 0 rfl 5
  have hn2 : ∀ x ∈ [((w.heap.size + 1, #[.int .u8 A, .int .u8 B, .int .i64 N], 38) : Nat × Array Value × TypeId), (w.heap.size, #[.string S, .string L, .int .u16 T], 24)], x.1 ≠ w.heap.size + 1 + 1 := by
    intro x hx
    rcases List.mem_cons.1 hx with rfl | hx
    · show w.heap.size + 1 ≠ w.heap.size + 1 + 1
      omega
    · rw [List.mem_singleton.1 hx]
      show w.heap.size ≠ w.heap.size + 1 + 1
      omega
  have i2 := I1.out.set (by omega) hn2 5 (.string (r.extract 0 z))
  have I2 : Hid (Iv w (w1.setCell ⟨w.heap.size + 1 + 1, 5, none⟩ (.string (r.extract 0 z))) [(w.heap.size + 1 + 1, #[.int .i64 a, .int .i64 b, .int .i64 c, .int .i64 d, .int .i64 n, .string (r.extract 0 z)], 41), (w.heap.size + 1, #[.int .u8 A, .int .u8 B, .int .i64 N], 38), (w.heap.size, #[.string S, .string L, .int .u16 T], 24)]) := Lib.hid i2
  clear hb1 i2
  go_wp2_with fail
  generalize w1.setCell ⟨w.heap.size + 1 + 1, 5, none⟩ (.string (r.extract 0 z)) = v0 at *
  clear q5 p5 hy hz
  have D0 : ∀ W, Below v0.heap.size v0 W → W.cell? ⟨w.heap.size, 0, none⟩ = some (.string S) := fun W h => (I2.out.call h).cell 2 rfl 0 rfl
  have D1 : ∀ W, Below v0.heap.size v0 W → W.cell? ⟨w.heap.size, 1, none⟩ = some (.string L) := fun W h => (I2.out.call h).cell 2 rfl 1 rfl
  have D2 : ∀ W, Below v0.heap.size v0 W → W.cell? ⟨w.heap.size, 2, none⟩ = some (.int .u16 T) := fun W h => (I2.out.call h).cell 2 rfl 2 rfl
  have K0 := Lib.hid (Iv.start v0)
  go_cut [9, 10] (fun x9 x10 W => ∃ (g : Nat) (a1 b1 c1 d1 n1 e1 : Int) (r1 : ByteArray), r1.size ≤ 70 ∧ x9 = .pointer (some ⟨g, 0, none⟩) ∧ x10 = .int .i64 e1 ∧ Iv v0 W [(g, #[.int .i64 a1, .int .i64 b1, .int .i64 c1, .int .i64 d1, .int .i64 n1, .string r1], 41)])
  case first =>
    go_region_held3 (fun W => Below v0.heap.size v0 W) (first | with_reducible exact K3.out.below | with_reducible exact K3.out.below.drew | with_reducible exact K3.out.below.alloc K3.out.below.size _ | with_reducible exact (K3.out.below.alloc K3.out.below.size _).drew | with_reducible exact K3.out.below.drew.alloc K3.out.below.drew.size _ | with_reducible exact K2.out.below | with_reducible exact K2.out.below.drew | with_reducible exact K2.out.below.alloc K2.out.below.size _ | with_reducible exact (K2.out.below.alloc K2.out.below.size _).drew | with_reducible exact K2.out.below.drew.alloc K2.out.below.drew.size _ | with_reducible exact K1.out.below | with_reducible exact K1.out.below.drew | with_reducible exact K1.out.below.alloc K1.out.below.size _ | with_reducible exact (K1.out.below.alloc K1.out.below.size _).drew | with_reducible exact K1.out.below.drew.alloc K1.out.below.drew.size _ | with_reducible exact K0.out.below | with_reducible exact K0.out.below.drew | with_reducible exact K0.out.below.alloc K0.out.below.size _ | with_reducible exact (K0.out.below.alloc K0.out.below.size _).drew | with_reducible exact K0.out.below.drew.alloc K0.out.below.drew.size _ | ((iterate 6 refine Below.setCell ?_ (by first | exact Nat.le_refl _ | exact K1.out.below.size | exact K2.out.below.size | exact K3.out.below.size) _); with_reducible exact K3.out.below)) ((first | (go_at_call 19; refine (newI_any _).mono ?_; rintro e w2 ⟨rfl, hb2⟩; have K1 := Lib.hid (Iv.call (by first | with_reducible exact K0.out | with_reducible exact K0.out.drew | with_reducible exact K0.out.new _ _ | with_reducible exact (K0.out.new _ _).drew | with_reducible exact K0.out.drew.new _ _) hb2); clear hb2) | (go_at_call 11; refine (HO.out _).mono ?_; rintro e w3 ⟨t3, rfl, ht3, hb3⟩; have K2 := Lib.hid (Iv.call (by first | with_reducible exact K1.out | with_reducible exact K1.out.drew | with_reducible exact K1.out.new _ _ | with_reducible exact (K1.out.new _ _).drew | with_reducible exact K1.out.drew.new _ _) hb3); have ht4 : t3.size ≤ 4000 := ht3; clear hb3 ht3) | (go_at_call 18; obtain ⟨a1, b1, c1, d1, n1, r1, e1, hr1, hx22, h18⟩ := more_both 1732584193 4023233417 2562383102 271733878 0 ⟨#[]⟩ t3 (by omega); have H18 := Lib.hid h18; clear hx22 h18; refine (H18.out _).mono ?_; rintro e w4 ⟨rfl, hb4⟩; have K3 := Lib.hid (Iv.call (by first | with_reducible exact K2.out | with_reducible exact K2.out.drew | with_reducible exact K2.out.new _ _ | with_reducible exact (K2.out.new _ _).drew | with_reducible exact K2.out.drew.new _ _) hb4); clear hb4; (first | (skip; have g0 := K3.out.cell 0 rfl 0 rfl; have f0 := K3.out.free 0 rfl 0; have g1 := K3.out.cell 0 rfl 1 rfl; have f1 := K3.out.free 0 rfl 1; have g2 := K3.out.cell 0 rfl 2 rfl; have f2 := K3.out.free 0 rfl 2; have g3 := K3.out.cell 0 rfl 3 rfl; have f3 := K3.out.free 0 rfl 3; have g4 := K3.out.cell 0 rfl 4 rfl; have f4 := K3.out.free 0 rfl 4; have g5 := K3.out.cell 0 rfl 5 rfl; have f5 := K3.out.free 0 rfl 5) | skip))))
    all_goals go_wp2_with fail
    all_goals go_meet
    all_goals exact ⟨_, a1, b1, c1, d1, n1, e1, r1, hr1, rfl, rfl, by first | with_reducible exact K3.out.new _ _ | exact ((((((K3.out.set (by first | exact Nat.le_refl _ | exact K1.out.below.size | exact K2.out.below.size) (fun x hx => by cases hx) 0 _).set (by first | exact Nat.le_refl _ | exact K1.out.below.size | exact K2.out.below.size) (fun x hx => by cases hx) 1 _).set (by first | exact Nat.le_refl _ | exact K1.out.below.size | exact K2.out.below.size) (fun x hx => by cases hx) 2 _).set (by first | exact Nat.le_refl _ | exact K1.out.below.size | exact K2.out.below.size) (fun x hx => by cases hx) 3 _).set (by first | exact Nat.le_refl _ | exact K1.out.below.size | exact K2.out.below.size) (fun x hx => by cases hx) 4 _).set (by first | exact Nat.le_refl _ | exact K1.out.below.size | exact K2.out.below.size) (fun x hx => by cases hx) 5 _)⟩
  case rest =>
    obtain ⟨g, a1, b1, c1, d1, n1, e1, r1, hr1, rfl, rfl, hI⟩ := hcut
    have I3 := Lib.hid (I2.out.join hI)
    clear hI D0 D1 D2 K0
    go_wp2_with fail
    refine (new_any _).mono ?_
    rintro e w5 ⟨rfl, hb5⟩
    have I4 := Lib.hid (I3.out.call hb5)
    clear hb5
    go_wp2_with fail
    refine (newI_any _).mono ?_
    rintro e w6 ⟨rfl, hb6⟩
    have I5 := Lib.hid (I4.out.call hb6)
    have he := eq41 1732584193 4023233417 2562383102 271733878 0 ⟨#[]⟩
    clear hb6
    go_wp2_with fail
    clear he
    have K0 := Lib.hid (Iv.start w6)
    have DA0 : ∀ W, Below w6.heap.size w6 W → W.cell? ⟨g, 0, none⟩ = some (.int .i64 a1) := fun W h => (I5.out.call h).cell 0 rfl 0 rfl
    have DA1 : ∀ W, Below w6.heap.size w6 W → W.cell? ⟨g, 1, none⟩ = some (.int .i64 b1) := fun W h => (I5.out.call h).cell 0 rfl 1 rfl
    have DA2 : ∀ W, Below w6.heap.size w6 W → W.cell? ⟨g, 2, none⟩ = some (.int .i64 c1) := fun W h => (I5.out.call h).cell 0 rfl 2 rfl
    have DA3 : ∀ W, Below w6.heap.size w6 W → W.cell? ⟨g, 3, none⟩ = some (.int .i64 d1) := fun W h => (I5.out.call h).cell 0 rfl 3 rfl
    have DA4 : ∀ W, Below w6.heap.size w6 W → W.cell? ⟨g, 4, none⟩ = some (.int .i64 n1) := fun W h => (I5.out.call h).cell 0 rfl 4 rfl
    have DA5 : ∀ W, Below w6.heap.size w6 W → W.cell? ⟨g, 5, none⟩ = some (.string r1) := fun W h => (I5.out.call h).cell 0 rfl 5 rfl
    have DB0 : ∀ W, Below w6.heap.size w6 W → W.cell? ⟨w.heap.size + 1 + 1, 0, none⟩ = some (.int .i64 a) := fun W h => (I5.out.call h).cell 1 rfl 0 rfl
    have DB1 : ∀ W, Below w6.heap.size w6 W → W.cell? ⟨w.heap.size + 1 + 1, 1, none⟩ = some (.int .i64 b) := fun W h => (I5.out.call h).cell 1 rfl 1 rfl
    have DB2 : ∀ W, Below w6.heap.size w6 W → W.cell? ⟨w.heap.size + 1 + 1, 2, none⟩ = some (.int .i64 c) := fun W h => (I5.out.call h).cell 1 rfl 2 rfl
    have DB3 : ∀ W, Below w6.heap.size w6 W → W.cell? ⟨w.heap.size + 1 + 1, 3, none⟩ = some (.int .i64 d) := fun W h => (I5.out.call h).cell 1 rfl 3 rfl
    have DB4 : ∀ W, Below w6.heap.size w6 W → W.cell? ⟨w.heap.size + 1 + 1, 4, none⟩ = some (.int .i64 n) := fun W h => (I5.out.call h).cell 1 rfl 4 rfl
    have DB5 : ∀ W, Below w6.heap.size w6 W → W.cell? ⟨w.heap.size + 1 + 1, 5, none⟩ = some (.string (r.extract 0 z)) := fun W h => (I5.out.call h).cell 1 rfl 5 rfl
    have DC0 : ∀ W, Below w6.heap.size w6 W → W.cell? ⟨w.heap.size + 1, 0, none⟩ = some (.int .u8 A) := fun W h => (I5.out.call h).cell 2 rfl 0 rfl
    have DC1 : ∀ W, Below w6.heap.size w6 W → W.cell? ⟨w.heap.size + 1, 1, none⟩ = some (.int .u8 B) := fun W h => (I5.out.call h).cell 2 rfl 1 rfl
    have DC2 : ∀ W, Below w6.heap.size w6 W → W.cell? ⟨w.heap.size + 1, 2, none⟩ = some (.int .i64 N) := fun W h => (I5.out.call h).cell 2 rfl 2 rfl
    go_cut [54, 55] (fun x54 x55 W => ∃ (a1 b1 c1 d1 n1 a2 b2 c2 d2 n2 a3 b3 c3 d3 n3 a4 b4 c4 d4 n4 : Int) (r1 r2 r3 r4 : ByteArray), (r1.size ≤ 70 ∧ r2.size ≤ 70 ∧ r3.size ≤ 70 ∧ r4.size ≤ 70) ∧ x54 = .agg (four a1 b1 c1 d1 n1 a2 b2 c2 d2 n2 a3 b3 c3 d3 n3 a4 b4 c4 d4 n4 r1 r2 r3 r4) ∧ x55 = .int .i64 0 ∧ Below w6.heap.size w6 W)
    case first =>
      go_region_held3 (fun W => Below w6.heap.size w6 W) (first | with_reducible exact K3.out.below | with_reducible exact K3.out.below.drew | with_reducible exact K3.out.below.alloc K3.out.below.size _ | with_reducible exact (K3.out.below.alloc K3.out.below.size _).drew | with_reducible exact K3.out.below.drew.alloc K3.out.below.drew.size _ | with_reducible exact K2.out.below | with_reducible exact K2.out.below.drew | with_reducible exact K2.out.below.alloc K2.out.below.size _ | with_reducible exact (K2.out.below.alloc K2.out.below.size _).drew | with_reducible exact K2.out.below.drew.alloc K2.out.below.drew.size _ | with_reducible exact K1.out.below | with_reducible exact K1.out.below.drew | with_reducible exact K1.out.below.alloc K1.out.below.size _ | with_reducible exact (K1.out.below.alloc K1.out.below.size _).drew | with_reducible exact K1.out.below.drew.alloc K1.out.below.drew.size _ | with_reducible exact K0.out.below | with_reducible exact K0.out.below.drew | with_reducible exact K0.out.below.alloc K0.out.below.size _ | with_reducible exact (K0.out.below.alloc K0.out.below.size _).drew | with_reducible exact K0.out.below.drew.alloc K0.out.below.drew.size _) ((first | (go_at_call 21; have hx := K2.out; refine (of_any A B N 1732584193 4023233417 2562383102 271733878 0 ⟨#[]⟩ (by decide) hA hB _).mono ?_; rintro e y3 ⟨v, rfl, ⟨a4, b4, c4, d4, n4, r4, rfl, hr4⟩, hb3⟩; have K3 := Lib.hid (Iv.call (by first | with_reducible exact K2.out | with_reducible exact K2.out.drew | with_reducible exact K2.out.new _ _ | with_reducible exact (K2.out.new _ _).drew | with_reducible exact K2.out.drew.new _ _) hb3); clear hb3 hx) | (go_at_call 21; refine (of_any A B N a1 b1 c1 d1 n1 r1 hr1 hA hB _).mono ?_; rintro e y1 ⟨v, rfl, ⟨a2, b2, c2, d2, n2, r2, rfl, hr2⟩, hb1⟩; have K1 := Lib.hid (Iv.call (by first | with_reducible exact K0.out | with_reducible exact K0.out.drew | with_reducible exact K0.out.new _ _ | with_reducible exact (K0.out.new _ _).drew | with_reducible exact K0.out.drew.new _ _) hb1); clear hb1) | (go_at_call 19; refine (newI_any _).mono ?_; rintro e y2 ⟨rfl, hb2⟩; have K2 := Lib.hid (Iv.call (by first | with_reducible exact K1.out | with_reducible exact K1.out.drew | with_reducible exact K1.out.new _ _ | with_reducible exact (K1.out.new _ _).drew | with_reducible exact K1.out.drew.new _ _) hb2); clear hb2)))
      all_goals go_wp2_with fail
      all_goals go_meet
      all_goals exact ⟨a1, b1, c1, d1, n1, a2, b2, c2, d2, n2, a, b, c, d, n, a4, b4, c4, d4, n4, r1, r2, r.extract 0 z, r4, ⟨hr1, hr2, hrz, hr4⟩, rfl, rfl, K3.out.below⟩
    case rest =>
      obtain ⟨xa1, xb1, xc1, xd1, xn1, xa2, xb2, xc2, xd2, xn2, xa3, xb3, xc3, xd3, xn3, xa4, xb4, xc4, xd4, xn4, xr1, xr2, xr3, xr4, hrs, rfl, rfl, hB7⟩ := hcut
      have J0 := Lib.hid ((I5.out.call hB7).sub (M := []) (fun x hx => by cases hx))
      have HRS := Lib.hid hrs
      clear hB7 hrs DA0 DA1 DA2 DA3 DA4 DA5 DB0 DB1 DB2 DB3 DB4 DB5 DC0 DC1 DC2 K0
      go_wp2_with fail
      go_loopw [55] (fun x55 W => ∃ k : Nat, k ≤ 4 ∧ x55 = .int .i64 k ∧ Iv w W []) (fun x55 _ => 4 - (intOf x55).toNat)
      case atStart => exact ⟨0, by omega, rfl, J0.out⟩
      case round =>
        obtain ⟨k, hk, rfl, hI⟩ := hrel
        have L0 := Lib.hid hI
        clear hI J0
        by_cases hlt : k < 4
        · obtain ⟨aa, bb, cc, dd, nn, rr, hrr, hix⟩ := four_at xa1 xb1 xc1 xd1 xn1 xa2 xb2 xc2 xd2 xn2 xa3 xb3 xc3 xd3 xn3 xa4 xb4 xc4 xd4 xn4 xr1 xr2 xr3 xr4 HRS.out k hlt
          obtain ⟨pa, pb, pc, pd, pn, pq, pe, hpq, h22, h18⟩ := more_both aa bb cc dd nn rr (t.extract 0 y) (by omega)
          obtain ⟨l, fe, hl, h23, h24⟩ := done_both aa bb cc dd nn rr
          obtain ⟨ce, h25, h26⟩ := check_both aa bb cc dd nn rr
          have H22 := Lib.hid h22
          have H18 := Lib.hid h18
          have H23 := Lib.hid h23
          have H24 := Lib.hid h24
          have H25 := Lib.hid h25
          have H26 := Lib.hid h26
          have HL := Lib.hid hl
          clear h22 h18 h23 h24 h25 h26 hl
          go_wp2_with fail
          have L1 := Lib.hid (L0.out.new (#[.int .i64 aa, .int .i64 bb, .int .i64 cc, .int .i64 dd, .int .i64 nn, .string rr]) 41)
          refine (H22.out _ (HK.out.below L1.out.below hp)).mono ?_
          rintro e u1 ⟨rfl, hb1⟩
          have L2 := Lib.hid ((L1.out.call hb1).new (#[.int .i64 pa, .int .i64 pb, .int .i64 pc, .int .i64 pd, .int .i64 pn, .string pq]) 41)
          clear hb1
          go_wp2_with ((with_reducible refine wpList_load_whole rfl 41 _ rfl (wr.heap.size) ?_ 41 (#[.int .i64 aa, .int .i64 bb, .int .i64 cc, .int .i64 dd, .int .i64 nn, .string rr]) _ (L2.out.get 1 rfl) Tryd.underlying41 ?_ 6 ?_ ?_ ?_); (next => rfl); (next => rfl); (next => kernel_rfl); (next => rfl))
          refine (H18.out _).mono ?_
          rintro e u2 ⟨rfl, hb2⟩
          have L3 := Lib.hid ((L2.out.call hb2).new (#[.int .i64 pa, .int .i64 pb, .int .i64 pc, .int .i64 pd, .int .i64 pn, .string pq]) 41)
          clear hb2
          go_wp2_with ((with_reducible refine wpList_load_whole rfl 41 _ rfl (wr.heap.size) ?_ 41 (#[.int .i64 aa, .int .i64 bb, .int .i64 cc, .int .i64 dd, .int .i64 nn, .string rr]) _ (L3.out.get 2 rfl) Tryd.underlying41 ?_ 6 ?_ ?_ ?_); (next => rfl); (next => rfl); (next => kernel_rfl); (next => rfl))
          refine (H23.out _ (HK.out.below L3.out.below hp)).mono ?_
          rintro e u3 ⟨rfl, hb3⟩
          have L4 := Lib.hid ((L3.out.call hb3).new (ob l) 28)
          clear hb3
          go_wp2_with (first | ((with_reducible refine wpList_store_new rfl 28 _ _ rfl _ (ob l) ?_ ?_ 16 ?_ ?_ ?_ ?_ ?_); (next => rfl); (next => rfl); (next => kernel_rfl); (next => rfl); (next => exact ob_size16 _ HL.out); (next => exact ob_one _)) | ((with_reducible refine wpList_load_whole rfl 41 _ rfl (wr.heap.size) ?_ 41 (#[.int .i64 aa, .int .i64 bb, .int .i64 cc, .int .i64 dd, .int .i64 nn, .string rr]) _ (L4.out.get 3 rfl) Tryd.underlying41 ?_ 6 ?_ ?_ ?_); (next => rfl); (next => rfl); (next => kernel_rfl); (next => rfl)))
          refine (H24.out _).mono ?_
          rintro e u4 ⟨rfl, hb4⟩
          have L5 := Lib.hid ((L4.out.call hb4).new (ob l) 28)
          clear hb4
          go_wp2_with ((with_reducible refine wpList_store_new rfl 28 _ _ rfl _ (ob l) ?_ ?_ 16 ?_ ?_ ?_ ?_ ?_); (next => rfl); (next => rfl); (next => kernel_rfl); (next => rfl); (next => exact ob_size16 _ HL.out); (next => exact ob_one _))
          obtain ⟨cs, hcs⟩ : ∃ cs : List Value, List.map (fun n : Nat => Value.int .u8 (n : Int)) l = cs := ⟨_, rfl⟩
          have hob : ob l = cs.toArray := by rw [← hcs]; rfl
          have hc16 : cs.length = 16 := by rw [← hcs, List.length_map]; exact HL.out
          have hinf : (Tryd.prog.info? 28).map (·.size) = some cs.length := by rw [hc16]; kernel_rfl
          have he28 := eq28 l l HL.out HL.out
          rw [show (l == l) = true by simp, hob] at he28
          have he41 := eq41 pa pb pc pd pn pq
          obtain ⟨wq, hwq⟩ : ∃ wq, u4.alloc (.cells (ob l) 28) = wq := ⟨_, rfl⟩
          have l6 := L5.out
          rw [hwq, hob] at l6
          rw [hwq]
          have L6 := Lib.hid l6
          clear hwq l6 hcs hc16 hob
          have EX0 : ∀ W, Below wq.heap.size wq W → W.cell? ⟨wr.heap.size, 0, none⟩ = some (.int .i64 aa) := fun W h => (L6.out.call h).cell 4 rfl 0 rfl
          have EX1 : ∀ W, Below wq.heap.size wq W → W.cell? ⟨wr.heap.size, 1, none⟩ = some (.int .i64 bb) := fun W h => (L6.out.call h).cell 4 rfl 1 rfl
          have EX2 : ∀ W, Below wq.heap.size wq W → W.cell? ⟨wr.heap.size, 2, none⟩ = some (.int .i64 cc) := fun W h => (L6.out.call h).cell 4 rfl 2 rfl
          have EX3 : ∀ W, Below wq.heap.size wq W → W.cell? ⟨wr.heap.size, 3, none⟩ = some (.int .i64 dd) := fun W h => (L6.out.call h).cell 4 rfl 3 rfl
          have EX4 : ∀ W, Below wq.heap.size wq W → W.cell? ⟨wr.heap.size, 4, none⟩ = some (.int .i64 nn) := fun W h => (L6.out.call h).cell 4 rfl 4 rfl
          have EX5 : ∀ W, Below wq.heap.size wq W → W.cell? ⟨wr.heap.size, 5, none⟩ = some (.string rr) := fun W h => (L6.out.call h).cell 4 rfl 5 rfl
          have EM0 : ∀ W, Below wq.heap.size wq W → W.cell? ⟨u1.heap.size, 0, none⟩ = some (.int .i64 pa) := fun W h => (L6.out.call h).cell 3 rfl 0 rfl
          have EM1 : ∀ W, Below wq.heap.size wq W → W.cell? ⟨u1.heap.size, 1, none⟩ = some (.int .i64 pb) := fun W h => (L6.out.call h).cell 3 rfl 1 rfl
          have EM2 : ∀ W, Below wq.heap.size wq W → W.cell? ⟨u1.heap.size, 2, none⟩ = some (.int .i64 pc) := fun W h => (L6.out.call h).cell 3 rfl 2 rfl
          have EM3 : ∀ W, Below wq.heap.size wq W → W.cell? ⟨u1.heap.size, 3, none⟩ = some (.int .i64 pd) := fun W h => (L6.out.call h).cell 3 rfl 3 rfl
          have EM4 : ∀ W, Below wq.heap.size wq W → W.cell? ⟨u1.heap.size, 4, none⟩ = some (.int .i64 pn) := fun W h => (L6.out.call h).cell 3 rfl 4 rfl
          have EM5 : ∀ W, Below wq.heap.size wq W → W.cell? ⟨u1.heap.size, 5, none⟩ = some (.string pq) := fun W h => (L6.out.call h).cell 3 rfl 5 rfl
          have EP0 : ∀ W, Below wq.heap.size wq W → W.cell? ⟨u2.heap.size, 0, none⟩ = some (.int .i64 pa) := fun W h => (L6.out.call h).cell 2 rfl 0 rfl
          have EP1 : ∀ W, Below wq.heap.size wq W → W.cell? ⟨u2.heap.size, 1, none⟩ = some (.int .i64 pb) := fun W h => (L6.out.call h).cell 2 rfl 1 rfl
          have EP2 : ∀ W, Below wq.heap.size wq W → W.cell? ⟨u2.heap.size, 2, none⟩ = some (.int .i64 pc) := fun W h => (L6.out.call h).cell 2 rfl 2 rfl
          have EP3 : ∀ W, Below wq.heap.size wq W → W.cell? ⟨u2.heap.size, 3, none⟩ = some (.int .i64 pd) := fun W h => (L6.out.call h).cell 2 rfl 3 rfl
          have EP4 : ∀ W, Below wq.heap.size wq W → W.cell? ⟨u2.heap.size, 4, none⟩ = some (.int .i64 pn) := fun W h => (L6.out.call h).cell 2 rfl 4 rfl
          have EP5 : ∀ W, Below wq.heap.size wq W → W.cell? ⟨u2.heap.size, 5, none⟩ = some (.string pq) := fun W h => (L6.out.call h).cell 2 rfl 5 rfl
          go_cut [104] (fun x104 W => x104 = .bool false ∧ Below wq.heap.size wq W)
          case first =>
            refine wp_region_held_drew (S := fun W => Below wq.heap.size wq W) (by kernel_rfl) ?_ (fun hHeld => ?_)
            · exact (Below.refl _ _).drew
            refine wpAnyH_take (i := 0) (oi := { dst := some 80, op := Op.load 41 (Operand.tmp 12), type := 41, pos := "law.go:96", after := #[], guard := none }) (v := ?_) rfl (by kernel_rfl) (by kernel_rfl) (by kernel_rfl) (fun _ _ _ h => h) (Or.inl ⟨by rfl, ?_⟩) hHeld ?_
            rotate_left 1
            · intro w hSw; go_simp <;> with_reducible rfl
            try simp only [Act.put, List.setIfInBounds_toArray, List.set_cons_zero, List.set_cons_succ]
            refine wpAnyH_take (i := 2) (oi := { dst := some 82, op := Op.load 41 (Operand.tmp 12), type := 41, pos := "law.go:96", after := #[], guard := none }) (v := ?_) rfl (by kernel_rfl) (by kernel_rfl) (by kernel_rfl) (fun _ _ _ h => h) (Or.inl ⟨by rfl, ?_⟩) hHeld ?_
            rotate_left 1
            · intro w hSw; go_simp <;> with_reducible rfl
            try simp only [Act.put, List.setIfInBounds_toArray, List.set_cons_zero, List.set_cons_succ]
            refine wpAnyH_ready (rs := [1]) (by kernel_rfl) (by simp) ?_
            refine AllReadyH.cons (o := { dst := some 81, op := Op.call { callee := Callee.value (Operand.func 25), args := #[Operand.tmp 80], argTypes := #[41] }, type := 29, pos := "law.go:96", after := #[{ on := 0, ground := Ground.data }], guard := none }) rfl (fun K hK => ?_) AllReadyH.nil
            go_simp
            go_at_call 25
            refine (H25.out _).mono ?_
            rintro e y1 ⟨rfl, hb1⟩
            refine hK.out _ _ ((Below.refl _ _).drew.trans hb1) (fun hHeld1 => ?_)
            clear hK K
            try simp only [Act.put, List.setIfInBounds_toArray, List.set_cons_zero, List.set_cons_succ]
            have K1 := Lib.hid hHeld1
            clear hb1 hHeld
            refine wpAnyH_ready (rs := [3]) (by kernel_rfl) (by simp) ?_
            refine AllReadyH.cons (o := { dst := some 83, op := Op.call { callee := Callee.value (Operand.func 26), args := #[Operand.tmp 82], argTypes := #[41] }, type := 29, pos := "law.go:96", after := #[{ on := 2, ground := Ground.data }, { on := 1, ground := Ground.chain }], guard := none }) rfl (fun K hK => ?_) AllReadyH.nil
            go_simp
            go_at_call 26
            refine (H26.out _).mono ?_
            rintro e y2 ⟨rfl, hb2⟩
            refine hK.out _ _ (K1.out.trans (hb2.mono K1.out.size)) (fun hHeld2 => ?_)
            clear hK K
            try simp only [Act.put, List.setIfInBounds_toArray, List.set_cons_zero, List.set_cons_succ]
            clear hb2 hHeld1
            refine wpAnyH_take (i := 4) (oi := { dst := some 84, op := Op.binOp BinOp.neq 29 (Operand.tmp 81) (Operand.tmp 83) 29, type := 4, pos := "law.go:96", after := #[{ on := 1, ground := Ground.data }, { on := 3, ground := Ground.data }], guard := none }) (v := ?_) rfl (by kernel_rfl) (by kernel_rfl) (by kernel_rfl) (fun _ _ _ h => h) (Or.inl ⟨by rfl, ?_⟩) hHeld2 ?_
            rotate_left 1
            · intro w hSw; go_simp <;> with_reducible rfl
            try simp only [Act.put, List.setIfInBounds_toArray, List.set_cons_zero, List.set_cons_succ]
            refine wpAnyH_take (i := 5) (oi := { dst := some 85, op := Op.move (Operand.tmp 84), type := 4, pos := "law.go:96", after := #[{ on := 4, ground := Ground.data }, { on := 3, ground := Ground.chain }], guard := none }) (v := ?_) rfl (by kernel_rfl) (by kernel_rfl) (by kernel_rfl) (fun _ _ _ h => h) (Or.inl ⟨by rfl, ?_⟩) hHeld2 ?_
            rotate_left 1
            · intro w hSw; go_simp <;> with_reducible rfl
            try simp only [Act.put, List.setIfInBounds_toArray, List.set_cons_zero, List.set_cons_succ]
            refine wpAnyH_take (i := 6) (oi := { dst := some 86, op := Op.load 41 (Operand.tmp 13), type := 41, pos := "law.go:96", after := #[{ on := 5, ground := Ground.guard }], guard := some (5, false) }) (v := ?_) rfl (by kernel_rfl) (by kernel_rfl) (by kernel_rfl) (fun _ _ _ h => h) (Or.inl ⟨by rfl, ?_⟩) hHeld2 ?_
            rotate_left 1
            · intro w hSw; go_simp <;> with_reducible rfl
            try simp only [Act.put, List.setIfInBounds_toArray, List.set_cons_zero, List.set_cons_succ]
            refine wpAnyH_take (i := 7) (oi := { dst := some 87, op := Op.load 41 (Operand.tmp 15), type := 41, pos := "law.go:96", after := #[{ on := 5, ground := Ground.guard }], guard := some (5, false) }) (v := ?_) rfl (by kernel_rfl) (by kernel_rfl) (by kernel_rfl) (fun _ _ _ h => h) (Or.inl ⟨by rfl, ?_⟩) hHeld2 ?_
            rotate_left 1
            · intro w hSw; go_simp <;> with_reducible rfl
            try simp only [Act.put, List.setIfInBounds_toArray, List.set_cons_zero, List.set_cons_succ]
            refine wpAnyH_take (i := 8) (oi := { dst := some 88, op := Op.binOp BinOp.neq 41 (Operand.tmp 86) (Operand.tmp 87) 41, type := 4, pos := "law.go:96", after := #[{ on := 6, ground := Ground.data }, { on := 7, ground := Ground.data }, { on := 5, ground := Ground.guard }], guard := some (5, false) }) (v := ?_) rfl (by kernel_rfl) (by kernel_rfl) (by kernel_rfl) (fun _ _ _ h => h) (Or.inl ⟨by rfl, ?_⟩) hHeld2 ?_
            rotate_left 1
            · intro w hSw; go_simp <;> with_reducible rfl
            try simp only [Act.put, List.setIfInBounds_toArray, List.set_cons_zero, List.set_cons_succ]
            refine wpAnyH_take (i := 9) (oi := { dst := some 89, op := Op.pick (Operand.tmp 85) (Operand.const (Value.bool true)) (Operand.tmp 88), type := 4, pos := "law.go:96", after := #[{ on := 5, ground := Ground.data }, { on := 8, ground := Ground.data }], guard := none }) (v := ?_) rfl (by kernel_rfl) (by kernel_rfl) (by kernel_rfl) (fun _ _ _ h => h) (Or.inl ⟨by rfl, ?_⟩) hHeld2 ?_
            rotate_left 1
            · intro w hSw; go_simp <;> with_reducible rfl
            try simp only [Act.put, List.setIfInBounds_toArray, List.set_cons_zero, List.set_cons_succ]
            refine wpAnyH_take (i := 10) (oi := { dst := some 90, op := Op.move (Operand.tmp 89), type := 4, pos := "law.go:96", after := #[{ on := 9, ground := Ground.data }, { on := 5, ground := Ground.chain }], guard := none }) (v := ?_) rfl (by kernel_rfl) (by kernel_rfl) (by kernel_rfl) (fun _ _ _ h => h) (Or.inl ⟨by rfl, ?_⟩) hHeld2 ?_
            rotate_left 1
            · intro w hSw; go_simp <;> with_reducible rfl
            try simp only [Act.put, List.setIfInBounds_toArray, List.set_cons_zero, List.set_cons_succ]
            refine wpAnyH_take (i := 11) (oi := { dst := some 91, op := Op.move (Operand.tmp 14), type := 29, pos := "law.go:96", after := #[{ on := 10, ground := Ground.guard }], guard := some (10, false) }) (v := ?_) rfl (by kernel_rfl) (by kernel_rfl) (by kernel_rfl) (fun _ _ _ h => h) (Or.inl ⟨by rfl, ?_⟩) hHeld2 ?_
            rotate_left 1
            · intro w hSw; go_simp <;> with_reducible rfl
            try simp only [Act.put, List.setIfInBounds_toArray, List.set_cons_zero, List.set_cons_succ]
            refine wpAnyH_take (i := 12) (oi := { dst := some 92, op := Op.move (Operand.tmp 16), type := 29, pos := "law.go:96", after := #[{ on := 10, ground := Ground.guard }], guard := some (10, false) }) (v := ?_) rfl (by kernel_rfl) (by kernel_rfl) (by kernel_rfl) (fun _ _ _ h => h) (Or.inl ⟨by rfl, ?_⟩) hHeld2 ?_
            rotate_left 1
            · intro w hSw; go_simp <;> with_reducible rfl
            try simp only [Act.put, List.setIfInBounds_toArray, List.set_cons_zero, List.set_cons_succ]
            refine wpAnyH_take (i := 13) (oi := { dst := some 93, op := Op.binOp BinOp.neq 29 (Operand.tmp 91) (Operand.tmp 92) 29, type := 4, pos := "law.go:96", after := #[{ on := 11, ground := Ground.data }, { on := 12, ground := Ground.data }, { on := 10, ground := Ground.guard }], guard := some (10, false) }) (v := ?_) rfl (by kernel_rfl) (by kernel_rfl) (by kernel_rfl) (fun _ _ _ h => h) (Or.inl ⟨by rfl, ?_⟩) hHeld2 ?_
            rotate_left 1
            · intro w hSw; go_simp <;> with_reducible rfl
            try simp only [Act.put, List.setIfInBounds_toArray, List.set_cons_zero, List.set_cons_succ]
            refine wpAnyH_take (i := 14) (oi := { dst := some 94, op := Op.pick (Operand.tmp 90) (Operand.const (Value.bool true)) (Operand.tmp 93), type := 4, pos := "law.go:96", after := #[{ on := 10, ground := Ground.data }, { on := 13, ground := Ground.data }], guard := none }) (v := ?_) rfl (by kernel_rfl) (by kernel_rfl) (by kernel_rfl) (fun _ _ _ h => h) (Or.inl ⟨by rfl, ?_⟩) hHeld2 ?_
            rotate_left 1
            · intro w hSw; go_simp <;> with_reducible rfl
            try simp only [Act.put, List.setIfInBounds_toArray, List.set_cons_zero, List.set_cons_succ]
            refine wpAnyH_take (i := 15) (oi := { dst := some 95, op := Op.move (Operand.tmp 94), type := 4, pos := "law.go:96", after := #[{ on := 14, ground := Ground.data }, { on := 10, ground := Ground.chain }], guard := none }) (v := ?_) rfl (by kernel_rfl) (by kernel_rfl) (by kernel_rfl) (fun _ _ _ h => h) (Or.inl ⟨by rfl, ?_⟩) hHeld2 ?_
            rotate_left 1
            · intro w hSw; go_simp <;> with_reducible rfl
            try simp only [Act.put, List.setIfInBounds_toArray, List.set_cons_zero, List.set_cons_succ]
            refine wpAnyH_take (i := 16) (oi := { dst := some 96, op := Op.load 28 (Operand.tmp 17), type := 28, pos := "law.go:96", after := #[{ on := 15, ground := Ground.guard }], guard := some (15, false) }) (v := _) rfl (by kernel_rfl) (by kernel_rfl) (by kernel_rfl) (fun _ _ _ h => h) (yieldsIf_load_mid (by rfl) _ _ rfl _ _ rfl _ _ (fun W h => range_of ((L6.out.call h).get 1 rfl)) Tryd.underlying28 rfl hinf) hHeld2 ?_
            try simp only [Act.put, List.setIfInBounds_toArray, List.set_cons_zero, List.set_cons_succ]
            refine wpAnyH_take (i := 17) (oi := { dst := some 97, op := Op.load 28 (Operand.tmp 19), type := 28, pos := "law.go:96", after := #[{ on := 15, ground := Ground.guard }], guard := some (15, false) }) (v := _) rfl (by kernel_rfl) (by kernel_rfl) (by kernel_rfl) (fun _ _ _ h => h) (yieldsIf_load_mid (by rfl) _ _ rfl _ _ rfl _ _ (fun W h => range_of ((L6.out.call h).get 0 rfl)) Tryd.underlying28 rfl hinf) hHeld2 ?_
            try simp only [Act.put, List.setIfInBounds_toArray, List.set_cons_zero, List.set_cons_succ]
            refine wpAnyH_take (i := 18) (oi := { dst := some 98, op := Op.binOp BinOp.neq 28 (Operand.tmp 96) (Operand.tmp 97) 28, type := 4, pos := "law.go:96", after := #[{ on := 16, ground := Ground.data }, { on := 17, ground := Ground.data }, { on := 15, ground := Ground.guard }], guard := some (15, false) }) (v := ?_) rfl (by kernel_rfl) (by kernel_rfl) (by kernel_rfl) (fun _ _ _ h => h) (Or.inl ⟨by rfl, ?_⟩) hHeld2 ?_
            rotate_left 1
            · intro w hSw; go_simp <;> with_reducible rfl
            try simp only [Act.put, List.setIfInBounds_toArray, List.set_cons_zero, List.set_cons_succ]
            refine wpAnyH_take (i := 19) (oi := { dst := some 99, op := Op.pick (Operand.tmp 95) (Operand.const (Value.bool true)) (Operand.tmp 98), type := 4, pos := "law.go:96", after := #[{ on := 15, ground := Ground.data }, { on := 18, ground := Ground.data }], guard := none }) (v := ?_) rfl (by kernel_rfl) (by kernel_rfl) (by kernel_rfl) (fun _ _ _ h => h) (Or.inl ⟨by rfl, ?_⟩) hHeld2 ?_
            rotate_left 1
            · intro w hSw; go_simp <;> with_reducible rfl
            try simp only [Act.put, List.setIfInBounds_toArray, List.set_cons_zero, List.set_cons_succ]
            refine wpAnyH_take (i := 20) (oi := { dst := some 100, op := Op.move (Operand.tmp 99), type := 4, pos := "law.go:96", after := #[{ on := 19, ground := Ground.data }, { on := 15, ground := Ground.chain }], guard := none }) (v := ?_) rfl (by kernel_rfl) (by kernel_rfl) (by kernel_rfl) (fun _ _ _ h => h) (Or.inl ⟨by rfl, ?_⟩) hHeld2 ?_
            rotate_left 1
            · intro w hSw; go_simp <;> with_reducible rfl
            try simp only [Act.put, List.setIfInBounds_toArray, List.set_cons_zero, List.set_cons_succ]
            refine wpAnyH_take (i := 21) (oi := { dst := some 101, op := Op.move (Operand.tmp 18), type := 29, pos := "law.go:96", after := #[{ on := 20, ground := Ground.guard }], guard := some (20, false) }) (v := ?_) rfl (by kernel_rfl) (by kernel_rfl) (by kernel_rfl) (fun _ _ _ h => h) (Or.inl ⟨by rfl, ?_⟩) hHeld2 ?_
            rotate_left 1
            · intro w hSw; go_simp <;> with_reducible rfl
            try simp only [Act.put, List.setIfInBounds_toArray, List.set_cons_zero, List.set_cons_succ]
            refine wpAnyH_take (i := 22) (oi := { dst := some 102, op := Op.move (Operand.tmp 20), type := 29, pos := "law.go:96", after := #[{ on := 20, ground := Ground.guard }], guard := some (20, false) }) (v := ?_) rfl (by kernel_rfl) (by kernel_rfl) (by kernel_rfl) (fun _ _ _ h => h) (Or.inl ⟨by rfl, ?_⟩) hHeld2 ?_
            rotate_left 1
            · intro w hSw; go_simp <;> with_reducible rfl
            try simp only [Act.put, List.setIfInBounds_toArray, List.set_cons_zero, List.set_cons_succ]
            refine wpAnyH_take (i := 23) (oi := { dst := some 103, op := Op.binOp BinOp.neq 29 (Operand.tmp 101) (Operand.tmp 102) 29, type := 4, pos := "law.go:96", after := #[{ on := 21, ground := Ground.data }, { on := 22, ground := Ground.data }, { on := 20, ground := Ground.guard }], guard := some (20, false) }) (v := ?_) rfl (by kernel_rfl) (by kernel_rfl) (by kernel_rfl) (fun _ _ _ h => h) (Or.inl ⟨by rfl, ?_⟩) hHeld2 ?_
            rotate_left 1
            · intro w hSw; go_simp <;> with_reducible rfl
            try simp only [Act.put, List.setIfInBounds_toArray, List.set_cons_zero, List.set_cons_succ]
            refine wpAnyH_take (i := 24) (oi := { dst := some 104, op := Op.pick (Operand.tmp 100) (Operand.const (Value.bool true)) (Operand.tmp 103), type := 4, pos := "law.go:96", after := #[{ on := 20, ground := Ground.data }, { on := 23, ground := Ground.data }], guard := none }) (v := ?_) rfl (by kernel_rfl) (by kernel_rfl) (by kernel_rfl) (fun _ _ _ h => h) (Or.inl ⟨by rfl, ?_⟩) hHeld2 ?_
            rotate_left 1
            · intro w hSw; go_simp <;> with_reducible rfl
            try simp only [Act.put, List.setIfInBounds_toArray, List.set_cons_zero, List.set_cons_succ]
            refine wpAnyH_done (by kernel_rfl) ?_ _
            go_wp2_with fail
            go_meet
            exact ⟨rfl, hHeld2⟩
          case rest =>
            obtain ⟨rfl, hB8⟩ := hcut
            have L7 := Lib.hid ((L6.out.call hB8).sub (M := []) (fun x hx => by cases hx))
            clear hB8 he28 he41 hinf EX0 EX1 EX2 EX3 EX4 EX5 EM0 EM1 EM2 EM3 EM4 EM5 EP0 EP1 EP2 EP3 EP4 EP5
            go_wp2_with fail
            go_roundw
            case rel => exact ⟨k + 1, by omega, by go_num, L7.out⟩
            case measure => simp [intOf]; omega
        · obtain rfl : k = 4 := by omega
          clear hlt hk
          go_wp2_with fail
          go_ret
          exact ⟨rfl, L0.out.below⟩
end Go.Proofs.YtfhddcjepgjfnaaDoor
