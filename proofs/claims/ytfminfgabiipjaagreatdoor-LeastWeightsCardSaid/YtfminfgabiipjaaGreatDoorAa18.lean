/- Aa, part 18: Fr2 Fr3 Fr4 -/
import Derived.Test.YtfminfgabiipjaaGreatDoorAa0
import Derived.Test.YtfminfgabiipjaaGreatDoorAa17
import Derived.Test.YtfminfgabiipjaaGreatDoorAa9
set_option maxRecDepth 100000
set_option maxHeartbeats 16000000
namespace Go.Proofs.YtfminfgabiipjaaGreatDoor
open Go.RowKit
def RatV (W : World) (v : Value) (q : Rat) : Prop := RatAt W v q.num q.den
theorem RatV.below {W W' : World} {v : Value} {q : Rat} (h : RatV W v q) (hb : Below W.heap.size W W') : RatV W' v q := RatAt.below h hb
theorem qeu {W : World} {v : Value} {z : Int} {d : Nat} (h : RatAt W v z d) : ∃ (a : Option Addr) (n c : Nat) (b : Bool) (d' : Option Addr) (e f : Nat), v = .agg #[.slice a n c, .bool b, .slice d' e f] := by
 obtain ⟨m, o, rfl, ⟨am, bm, om, cm, n, M, rfl, _, _⟩, ⟨ao, bo, oo, co, no, O, rfl, _, _⟩⟩ := h
 exact ⟨am, n, cm, _, ao, no, co, rfl⟩
def RFit (q : Rat) (K : Nat) : Prop := Fit q.num.natAbs K ∧ Fit q.den K
theorem row_set3 {W : World} {g : Nat} {t : TypeId} (h : W.heap[g]? = some (.cells #[.slice none 0 0, .bool false, .slice none 0 0] t (0, 0))) (a : Option Addr) (n c : Nat) (b : Bool) (d : Option Addr) (e f : Nat) :
  (((W.setCell ⟨g, 0, none⟩ (.slice a n c)).setCell ⟨g, 1, none⟩ (.bool b)).setCell ⟨g, 2, none⟩ (.slice d e f)).heap[g]? = some (.cells #[.slice a n c, .bool b, .slice d e f] t (0, 0)) :=
 heap_setCell_same _ g 2 _ t _ (heap_setCell_same _ g 1 _ t _ (heap_setCell_same _ g 0 _ t _ h))
theorem rat_set3 {W : World} {v : Value} {q : Rat} {g : Nat} {t : TypeId} (hi : RatV W v q) (h : W.heap[g]? = some (.cells #[.slice none 0 0, .bool false, .slice none 0 0] t (0, 0))) (a : Option Addr) (n c : Nat) (b : Bool) (d : Option Addr) (e f : Nat) :
  RatV (((W.setCell ⟨g, 0, none⟩ (.slice a n c)).setCell ⟨g, 1, none⟩ (.bool b)).setCell ⟨g, 2, none⟩ (.slice d e f)) v q := by
 obtain ⟨m, o, h1, h2, h3⟩ := hi
 have hk : W.grownBy (((W.setCell ⟨g, 0, none⟩ (.slice a n c)).setCell ⟨g, 1, none⟩ (.bool b)).setCell ⟨g, 2, none⟩ (.slice d e f)) (some g) := qca (qca (frac.qcb W g 0 _) (frac.qcb _ g 1 _)) (frac.qcb _ g 2 _)
 exact ⟨m, o, h1, qcC h2 hk h qfi, qcC h3 hk h qfi⟩
theorem rmul_any (p q : Rat) (K : Nat) (hK : K ≤ 68719476736) (v u : Value) (w : World) (hv : RatV w v p) (hu : RatV w u q) (hp : RFit p K) (hq : RFit q K) :
  Calls Tryz.prog 102 #[v, u] w fun e w' => ∃ r, e = .returned r ∧ Below w.heap.size w w' ∧ RatV w' r (p * q) := by
 obtain ⟨mx, mX, rfl, hx, hX⟩ := hv
 obtain ⟨my, mY, rfl, hy, hY⟩ := hu
 obtain ⟨x, hxe⟩ : ∃ x, p.num.natAbs = x := ⟨_, rfl⟩
 obtain ⟨y, hye⟩ : ∃ y, q.num.natAbs = y := ⟨_, rfl⟩
 obtain ⟨X, hXe⟩ : ∃ X, p.den = X := ⟨_, rfl⟩
 obtain ⟨Y, hYe⟩ : ∃ Y, q.den = Y := ⟨_, rfl⟩
 have hlow := mul_low p.reduced q.reduced (qbs p.den_nz) (qbs q.den_nz)
 have hX0 : 0 < X := hXe ▸ qbs p.den_nz
 have hY0 : 0 < Y := hYe ▸ qbs q.den_nz
 obtain ⟨fx, fX⟩ := hp
 obtain ⟨fy, fY⟩ := hq
 rw [hxe] at hx fx
 rw [hye] at hy fy
 rw [hXe] at hX fX
 rw [hYe] at hY fY
 rw [hxe, hye, hXe, hYe] at hlow
 have hg0 : 0 < x.gcd Y := qbq _ hY0
 have hh0 : 0 < y.gcd X := qbq _ hX0
 have fg : Fit (x.gcd Y) K := fY.le (Nat.gcd_le_right _ hY0)
 have fh : Fit (y.gcd X) K := fX.le (Nat.gcd_le_right _ hX0)
 have hres : ∀ (W : World) (m o : Value), IntAt W m (if (decide (p.num < 0) != decide (q.num < 0)) = true then -((x / x.gcd Y * (y / y.gcd X) : Nat) : Int) else ((x / x.gcd Y * (y / y.gcd X) : Nat) : Int)) → MagAt W o (X / y.gcd X * (Y / x.gcd Y)) → ∃ a n c b d e f, m = .agg #[.slice a n c, .bool b] ∧ o = .slice d e f ∧ RatV W (.agg #[.slice a n c, .bool b, .slice d e f]) (p * q) := by
  intro W m o hm ho
  obtain ⟨zz, hzz⟩ : ∃ zz, (if (decide (p.num < 0) != decide (q.num < 0)) = true then -((x / x.gcd Y * (y / y.gcd X) : Nat) : Int) else ((x / x.gcd Y * (y / y.gcd X) : Nat) : Int)) = zz := ⟨_, rfl⟩
  have hza : zz.natAbs = x / x.gcd Y * (y / y.gcd X) := by rw [← hzz]; split <;> omega
  have hnd : X / y.gcd X * (Y / x.gcd Y) ≠ 0 := by
   have h1 := Nat.div_pos (Nat.le_of_dvd hX0 (qbe y X)) hh0
   have h2 := Nat.div_pos (Nat.le_of_dvd hY0 (qbe x Y)) hg0
   exact qbK (qbV h1 h2)
  have hq := rat_mul (p := p) (q := q) (z := zz) (d := X / y.gcd X * (Y / x.gcd Y)) hnd (by rw [hza]; exact hlow.1) (by
   have h2 := hlow.2
   have e1 : ((x / x.gcd Y * (y / y.gcd X) : Nat) : Int) * (X * Y : Nat) = ((x * y : Nat) : Int) * (X / y.gcd X * (Y / x.gcd Y) : Nat) := by rw [← qbI, ← qbI, h2]
   have e2 : p.num * q.num = if (decide (p.num < 0) != decide (q.num < 0)) = true then -((x * y : Nat) : Int) else ((x * y : Nat) : Int) := by
    rw [← hxe, ← hye]; exact (frac.qmA p.num q.num).symm
   rw [hXe, hYe, e2, ← hzz]
   split
   ·rw [qbU, qbU, e1]
   ·exact e1)
  rw [hzz] at hm
  obtain ⟨a, n, c, b, rfl⟩ := frac.qb8 hm
  obtain ⟨m', hm1, hm2⟩ := hm
  obtain ⟨ao, bo, oo, co, no, O, rfl, Io, hO⟩ := ho
  refine ⟨a, n, c, b, ao, no, co, rfl, rfl, m', .slice ao no co, ?_, ?_, ?_⟩
  ·simp only [qba, qbg, qa5] at hm1
   rw [hq.1, ← hm1.1, ← hm1.2.1]
  ·rw [hq.1]; exact hm2
  ·rw [hq.2]; exact ⟨ao, bo, oo, co, no, O, rfl, Io, hO⟩
 have HRES := qH hres
 generalize decide (p.num < 0) = b0 at *
 generalize decide (q.num < 0) = b1 at *
 have HX := qH (qA hx (qA hX (qA hy hY)))
 have HF := qH (qA fx (qA fX (qA fy fY)))
 have HP := qH (qA hX0 (qA hY0 (qA hg0 (qA hh0 (qA fg fh)))))
 have HK := qH hK
 obtain ⟨a0, _, _, c0, n0, _, rfl, _, _⟩ := hx
 obtain ⟨d0, _, _, f0, e0, _, rfl, _, _⟩ := hX
 obtain ⟨a1, _, _, c1, n1, _, rfl, _, _⟩ := hy
 obtain ⟨d1, _, _, f1, e1, _, rfl, _, _⟩ := hY
 clear hlow hres hX0 hY0 hg0 hh0 fg fh fx fX fy fY hK hxe hye hXe hYe
 obtain ⟨W1, hW1⟩ : ∃ W1, W1 = ((w.alloc (.cells #[.slice a0 n0 c0, .bool b0, .slice d0 e0 f0] 138)).alloc (.cells #[.slice a1 n1 c1, .bool b1, .slice d1 e1 f1] 138)).alloc (.cells #[.slice none 0 0, .bool false, .slice none 0 0] 138) := ⟨_, rfl⟩
 have hb1 : Below w.heap.size w W1 := hW1 ▸ qb1 (qb1 (qb1 qB qN) qN) qN
 have hr0 : W1.heap[w.heap.size]? = some (.cells #[.slice a0 n0 c0, .bool b0, .slice d0 e0 f0] 138 (0, 0)) := by rw [hW1, qL _ _ _ (by simp only [qab]; omega), qL _ _ _ (by simp only [qab]; omega)]; exact qM _ _ _ (by simp)
 have hr1 : W1.heap[w.heap.size + 1]? = some (.cells #[.slice a1 n1 c1, .bool b1, .slice d1 e1 f1] 138 (0, 0)) := by rw [hW1, qL _ _ _ (by simp only [qab]; omega)]; exact qM _ _ _ (by simp)
 have hr2 : W1.heap[w.heap.size + 1 + 1]? = some (.cells #[.slice none 0 0, .bool false, .slice none 0 0] 138 (0, 0)) := by rw [hW1]; exact qM _ _ _ (by simp)
 have l2 : w.heap.size + 1 + 1 < W1.heap.size := (qG hr2).1
 have C00 : ∀ W, Below (w.heap.size + 1 + 1) W1 W → W.cell? ⟨w.heap.size, 0, none⟩ = some (.slice a0 n0 c0) := fun W h => (h.cell (p := ⟨w.heap.size, 0, none⟩) (by show w.heap.size < _; omega)).trans (cell_of_row _ _ 0 _ _ _ hr0)
 have C01 : ∀ W, Below (w.heap.size + 1 + 1) W1 W → W.cell? ⟨w.heap.size, 1, none⟩ = some (.bool b0) := fun W h => (h.cell (p := ⟨w.heap.size, 1, none⟩) (by show w.heap.size < _; omega)).trans (cell_of_row _ _ 1 _ _ _ hr0)
 have C02 : ∀ W, Below (w.heap.size + 1 + 1) W1 W → W.cell? ⟨w.heap.size, 2, none⟩ = some (.slice d0 e0 f0) := fun W h => (h.cell (p := ⟨w.heap.size, 2, none⟩) (by show w.heap.size < _; omega)).trans (cell_of_row _ _ 2 _ _ _ hr0)
 have C10 : ∀ W, Below (w.heap.size + 1 + 1) W1 W → W.cell? ⟨w.heap.size + 1, 0, none⟩ = some (.slice a1 n1 c1) := fun W h => (h.cell (p := ⟨w.heap.size + 1, 0, none⟩) (by show w.heap.size + 1 < _; omega)).trans (cell_of_row _ _ 0 _ _ _ hr1)
 have C11 : ∀ W, Below (w.heap.size + 1 + 1) W1 W → W.cell? ⟨w.heap.size + 1, 1, none⟩ = some (.bool b1) := fun W h => (h.cell (p := ⟨w.heap.size + 1, 1, none⟩) (by show w.heap.size + 1 < _; omega)).trans (cell_of_row _ _ 1 _ _ _ hr1)
 have C12 : ∀ W, Below (w.heap.size + 1 + 1) W1 W → W.cell? ⟨w.heap.size + 1, 2, none⟩ = some (.slice d1 e1 f1) := fun W h => (h.cell (p := ⟨w.heap.size + 1, 2, none⟩) (by show w.heap.size + 1 < _; omega)).trans (cell_of_row _ _ 2 _ _ _ hr1)
 have HR := qH (qA hb1 hr2)
 have Hl2 := qH l2
 clear hr0 hr1 hr2 hb1
 go_enter Tryz.func102, Tryz.ntmps102
 go_wp2_with fail
 rw [← hW1]
 clear hW1
 refine (frac.qeF x Y K (by have := HK.out; omega) _ _ W1 (HX.out.1.below HR.out.1) (HX.out.2.2.2.below HR.out.1) HF.out.1 HF.out.2.2.2).mono ?_
 rintro e w2 ⟨vg, rfl, hb, hv⟩
 have Mw2_g := qH hv
 have Hw2 : Hid (Below w.heap.size w w2 ∧ Below (w.heap.size + 1 + 1) W1 w2) := qH ⟨HR.out.1.trans (hb.mono HR.out.1.size), hb.mono (qao Hl2.out)⟩
 have Rw2 := qH ((hb.block _ (qG HR.out.2).1).trans HR.out.2)
 obtain ⟨sg, _, _, ug, tg, _, rfl, _, _⟩ := hv
 clear hb
 have k00 := C00 w2 Hw2.out.2
 have k01 := C01 w2 Hw2.out.2
 have k02 := C02 w2 Hw2.out.2
 have k10 := C10 w2 Hw2.out.2
 have k11 := C11 w2 Hw2.out.2
 have k12 := C12 w2 Hw2.out.2
 go_wp2_with fail
 refine (frac.qeF y X K (by have := HK.out; omega) _ _ w2 (HX.out.2.2.1.below Hw2.out.1) (HX.out.2.1.below Hw2.out.1) HF.out.2.2.1 HF.out.2.1).mono ?_
 rintro e w3 ⟨vh, rfl, hb, hv⟩
 have Mw3_g := qH (Mw2_g.out.below hb)
 have Mw3_h := qH hv
 have Hw3 : Hid (Below w.heap.size w w3 ∧ Below (w.heap.size + 1 + 1) W1 w3) := qH ⟨Hw2.out.1.trans (hb.mono Hw2.out.1.size), (Hw2.out.2).trans (hb.mono (qam (qao Hl2.out) (Hw2.out.2).size))⟩
 have Rw3 := qH ((hb.block _ (qG Rw2.out).1).trans Rw2.out)
 obtain ⟨sh, _, _, uh, th, _, rfl, _, _⟩ := hv
 clear hb
 clear k00
 have k00 := C00 w3 Hw3.out.2
 clear k01
 have k01 := C01 w3 Hw3.out.2
 clear k02
 have k02 := C02 w3 Hw3.out.2
 clear k10
 have k10 := C10 w3 Hw3.out.2
 clear k11
 have k11 := C11 w3 Hw3.out.2
 clear k12
 have k12 := C12 w3 Hw3.out.2
 go_wp2_with fail
 refine (frac.qcp x (x.gcd Y) K (by have := HK.out; omega) _ _ w3 (HX.out.1.below Hw3.out.1) Mw3_g.out HF.out.1 HP.out.2.2.2.2.1 HP.out.2.2.1).mono ?_
 rintro e w4 ⟨va, _, rfl, hb, hv, _⟩
 have Mw4_g := qH (Mw3_g.out.below hb)
 have Mw4_h := qH (Mw3_h.out.below hb)
 have Mw4_a := qH hv
 have Hw4 : Hid (Below w.heap.size w w4 ∧ Below (w.heap.size + 1 + 1) W1 w4) := qH ⟨Hw3.out.1.trans (hb.mono Hw3.out.1.size), (Hw3.out.2).trans (hb.mono (qam (qao Hl2.out) (Hw3.out.2).size))⟩
 have Rw4 := qH ((hb.block _ (qG Rw3.out).1).trans Rw3.out)
 obtain ⟨sa, _, _, ua, ta, _, rfl, _, _⟩ := hv
 clear hb
 clear k00
 have k00 := C00 w4 Hw4.out.2
 clear k01
 have k01 := C01 w4 Hw4.out.2
 clear k02
 have k02 := C02 w4 Hw4.out.2
 clear k10
 have k10 := C10 w4 Hw4.out.2
 clear k11
 have k11 := C11 w4 Hw4.out.2
 clear k12
 have k12 := C12 w4 Hw4.out.2
 go_wp2_with fail
 refine (frac.qcp X (y.gcd X) K (by have := HK.out; omega) _ _ w4 (HX.out.2.1.below Hw4.out.1) Mw4_h.out HF.out.2.1 HP.out.2.2.2.2.2 HP.out.2.2.2.1).mono ?_
 rintro e w5 ⟨vb, _, rfl, hb, hv, _⟩
 have Mw5_g := qH (Mw4_g.out.below hb)
 have Mw5_h := qH (Mw4_h.out.below hb)
 have Mw5_a := qH (Mw4_a.out.below hb)
 have Mw5_b := qH hv
 have Hw5 : Hid (Below w.heap.size w w5 ∧ Below (w.heap.size + 1 + 1) W1 w5) := qH ⟨Hw4.out.1.trans (hb.mono Hw4.out.1.size), (Hw4.out.2).trans (hb.mono (qam (qao Hl2.out) (Hw4.out.2).size))⟩
 have Rw5 := qH ((hb.block _ (qG Rw4.out).1).trans Rw4.out)
 obtain ⟨sb, _, _, ub, tb, _, rfl, _, _⟩ := hv
 clear hb
 clear k00
 have k00 := C00 w5 Hw5.out.2
 clear k01
 have k01 := C01 w5 Hw5.out.2
 clear k02
 have k02 := C02 w5 Hw5.out.2
 clear k10
 have k10 := C10 w5 Hw5.out.2
 clear k11
 have k11 := C11 w5 Hw5.out.2
 clear k12
 have k12 := C12 w5 Hw5.out.2
 go_wp2_with fail
 refine (frac.qcp y (y.gcd X) K (by have := HK.out; omega) _ _ w5 (HX.out.2.2.1.below Hw5.out.1) Mw5_h.out HF.out.2.2.1 HP.out.2.2.2.2.2 HP.out.2.2.2.1).mono ?_
 rintro e w6 ⟨vc, _, rfl, hb, hv, _⟩
 have Mw6_g := qH (Mw5_g.out.below hb)
 have Mw6_h := qH (Mw5_h.out.below hb)
 have Mw6_a := qH (Mw5_a.out.below hb)
 have Mw6_b := qH (Mw5_b.out.below hb)
 have Mw6_c := qH hv
 have Hw6 : Hid (Below w.heap.size w w6 ∧ Below (w.heap.size + 1 + 1) W1 w6) := qH ⟨Hw5.out.1.trans (hb.mono Hw5.out.1.size), (Hw5.out.2).trans (hb.mono (qam (qao Hl2.out) (Hw5.out.2).size))⟩
 have Rw6 := qH ((hb.block _ (qG Rw5.out).1).trans Rw5.out)
 obtain ⟨sc, _, _, uc, tc, _, rfl, _, _⟩ := hv
 clear hb
 clear k00
 have k00 := C00 w6 Hw6.out.2
 clear k01
 have k01 := C01 w6 Hw6.out.2
 clear k02
 have k02 := C02 w6 Hw6.out.2
 clear k10
 have k10 := C10 w6 Hw6.out.2
 clear k11
 have k11 := C11 w6 Hw6.out.2
 clear k12
 have k12 := C12 w6 Hw6.out.2
 go_wp2_with fail
 refine (frac.qcp Y (x.gcd Y) K (by have := HK.out; omega) _ _ w6 (HX.out.2.2.2.below Hw6.out.1) Mw6_g.out HF.out.2.2.2 HP.out.2.2.2.2.1 HP.out.2.2.1).mono ?_
 rintro e w7 ⟨vd, _, rfl, hb, hv, _⟩
 have Mw7_g := qH (Mw6_g.out.below hb)
 have Mw7_h := qH (Mw6_h.out.below hb)
 have Mw7_a := qH (Mw6_a.out.below hb)
 have Mw7_b := qH (Mw6_b.out.below hb)
 have Mw7_c := qH (Mw6_c.out.below hb)
 have Mw7_d := qH hv
 have Hw7 : Hid (Below w.heap.size w w7 ∧ Below (w.heap.size + 1 + 1) W1 w7) := qH ⟨Hw6.out.1.trans (hb.mono Hw6.out.1.size), (Hw6.out.2).trans (hb.mono (qam (qao Hl2.out) (Hw6.out.2).size))⟩
 have Rw7 := qH ((hb.block _ (qG Rw6.out).1).trans Rw6.out)
 obtain ⟨sd, _, _, ud, td, _, rfl, _, _⟩ := hv
 clear hb
 clear k00
 have k00 := C00 w7 Hw7.out.2
 clear k01
 have k01 := C01 w7 Hw7.out.2
 clear k02
 have k02 := C02 w7 Hw7.out.2
 clear k10
 have k10 := C10 w7 Hw7.out.2
 clear k11
 have k11 := C11 w7 Hw7.out.2
 clear k12
 have k12 := C12 w7 Hw7.out.2
 have HT1 := qH (fun (W : World) (h : Below w7.heap.size w7 W) => frac.qcB (x / x.gcd Y) (y / y.gcd X) K K (by have := HK.out; omega) (.slice sa ta ua) (.slice sc tc uc) W (Mw7_a.out.below h) (Mw7_c.out.below h) (HF.out.1.le (qaU _ _)) (HF.out.2.2.1.le (qaU _ _)))
 have HT2 := qH (fun (W : World) (h : Below w7.heap.size w7 W) => frac.qcB (X / y.gcd X) (Y / x.gcd Y) K K (by have := HK.out; omega) (.slice sb tb ub) (.slice sd td ud) W (Mw7_b.out.below h) (Mw7_d.out.below h) (HF.out.2.1.le (qaU _ _)) (HF.out.2.2.2.le (qaU _ _)))
 have HS := qH (fun (W : World) (m : Value) (h : MagAt W m (x / x.gcd Y * (y / y.gcd X))) => frac.qcv (x / x.gcd Y * (y / y.gcd X)) (b0 != b1) m W h)
 have hst : Below (w.heap.size + 1 + 1) W1 w7 := Hw7.out.2
 have hstD : Below (w.heap.size + 1 + 1) W1 w7.drew := hst.drew
 have hs0 : w.heap.size + 1 + 1 < w7.heap.size := qak Hl2.out hst.size
 have Hs0 := qH hs0
 clear hs0
 go_wp2_with fail
 go_region_held3 (fun W => Below (w.heap.size + 1 + 1) W1 W) (first | with_reducible exact hst | with_reducible exact hstD | with_reducible exact HB10 | with_reducible exact HB9 | with_reducible exact HB8 | ((iterate 3 refine Below.setCell ?_ (by exact qaf _) _); exact HB10)) (first | (go_at_call_of 150 (Value.slice sa ta ua); refine (HT1.out _ (qB.drew)).mono ?_; rintro e w8 ⟨p8, rfl, hb8, hp8⟩; have HB8 : Below (w.heap.size + 1 + 1) W1 w8 := hstD.trans (hb8.mono (qao Hs0.out)); have HP8 := qH (qA hp8 (qA ((hb8.block _ Hs0.out).trans Rw7.out) (((Below.refl w7.heap.size w7).drew).trans hb8))); clear hb8 hp8) | (go_at_call 149; refine (HS.out _ _ HP8.out.1).mono ?_; rintro e w9 ⟨p9, rfl, hb9, hp9⟩; have HB9 : Below (w.heap.size + 1 + 1) W1 w9 := HB8.trans (hb9.mono (qam (qao Hl2.out) HB8.size)); obtain ⟨a9, n9, c9, b9, rfl⟩ := frac.qb8 hp9; have HP9 := qH (qA hp9 (qA ((hb9.block _ (qG HP8.out.2.1).1).trans HP8.out.2.1) (HP8.out.2.2.trans (hb9.mono HP8.out.2.2.size)))); clear hb9 hp9) | (go_at_call_of 150 (Value.slice sb tb ub); refine (HT2.out _ HP9.out.2.2).mono ?_; rintro e w10 ⟨p10, rfl, hb10, hp10⟩; have HB10 : Below (w.heap.size + 1 + 1) W1 w10 := HB9.trans (hb10.mono (qam (qao Hl2.out) HB9.size)); obtain ⟨a8, n8, c8, b8, d8, e8, f8, hm8, ho8, hv8⟩ := HRES.out w10 _ _ (HP9.out.1.below hb10) hp10; have hz10 := (hb10.block _ (qG HP9.out.2.1).1).trans HP9.out.2.1; subst ho8; have e0 := cell_of_row w10 _ 0 _ _ _ hz10; have e1 := cell_of_row w10 _ 1 _ _ _ hz10; have e2 := cell_of_row w10 _ 2 _ _ _ hz10; have f0 := frozen_of_row w10 _ 0 _ _ hz10; have f1 := frozen_of_row w10 _ 1 _ _ hz10; have f2 := frozen_of_row w10 _ 2 _ _ hz10; have hm8' : a8 = a9 ∧ n8 = n9 ∧ c8 = c9 ∧ b8 = b9 := (by simp only [qba, qbg, qa5, Value.slice.injEq, qbF] at hm8; exact ⟨hm8.1.1.symm, hm8.1.2.1.symm, hm8.1.2.2.symm, hm8.2.1.symm⟩); obtain ⟨rfl, rfl, rfl, rfl⟩ := hm8'; have HP10 := qH (qA hv8 hz10); clear hb10 hp10 hm8 hv8 hz10))
 go_wp2_with fail
 exact bodyPost_ret (v := .agg #[.slice a8 n8 c8, .bool b8, .slice d8 e8 f8]) (qb9 rfl _ _ (w.heap.size + 1 + 1) 138 _ _ rfl (row_set3 HP10.out.2 a8 n8 c8 b8 d8 e8 f8) Tryz.underlying138 rfl 3 (by kernel_rfl) rfl) rfl ⟨_, rfl, HR.out.1.trans ((((HB10.setCell (by exact qaf _) _).setCell (by exact qaf _) _).setCell (by exact qaf _) _).mono (by omega)), rat_set3 HP10.out.1 HP10.out.2 _ _ _ _ _ _ _⟩
def One (W2 W : World) (g : Nat) (v : Option Addr × Nat × Nat × Bool) (z : Int) : Prop :=
 W.heap[g]? = some (.cells #[.slice v.1 v.2.1 v.2.2.1, .bool v.2.2.2] 136 (0, 0)) ∧ IntAt W (.agg #[.slice v.1 v.2.1 v.2.2.1, .bool v.2.2.2]) z ∧ Below W2.heap.size W2 W
theorem qgl {W : World} {v : Value} {q : Rat} {g : Nat} {t : TypeId} {cs' : Array Value} (hi : RatV W v q) (h : W.heap[g]? = some (.cells #[.slice none 0 0, .bool false, .slice none 0 0] t (0, 0))) : RatV (W.setRow g cs') v q := by
 obtain ⟨m, o, h1, h2, h3⟩ := hi
 exact ⟨m, o, h1, qc2 h2 h qfi, qc2 h3 h qfi⟩
theorem one_a {W2 W : World} {a : Option Addr} {n c : Nat} {b : Bool} {z : Int} (h : IntAt W (.agg #[.slice a n c, .bool b]) z) (hb : Below W2.heap.size W2 W) :
  One W2 (W.alloc (.cells #[.slice a n c, .bool b] 136)) W.heap.size (a, n, c, b) z :=
 ⟨qM _ _ _ rfl, h.below (qb1 qB qN), qb1 hb qN⟩
theorem one_p {W2 W : World} {g : Nat} {a : Option Addr} {n c : Nat} {b : Bool} {z : Int} (h : IntAt W (.agg #[.slice a n c, .bool b]) z) (hb : Below W2.heap.size W2 W) (hg : W2.heap.size ≤ g) (hz : W.heap[g]? = some (.cells #[.slice none 0 0, .bool false] 136 (0, 0))) :
  One W2 ((W.setCell ⟨g, 0, none⟩ (.slice a n c)).setCell ⟨g, 1, none⟩ (.bool b)) g (a, n, c, b) z := by
 obtain ⟨p1, p2, p3⟩ := qhi hz a n c b
 exact ⟨p1, p3 _ _ _ h, (hb.setCell (by exact hg) _).setCell (by exact hg) _⟩
theorem radd_any (p q : Rat) (K : Nat) (hK : K ≤ 34359738368) (v u : Value) (w : World) (hv : RatV w v p) (hu : RatV w u q) (hp : RFit p K) (hq : RFit q K) :
  Calls Tryz.prog 101 #[v, u] w fun e w' => ∃ r, e = .returned r ∧ Below w.heap.size w w' ∧ RatV w' r (p + q) := by
 obtain ⟨mx, mX, rfl, hx, hX⟩ := hv
 obtain ⟨my, mY, rfl, hy, hY⟩ := hu
 obtain ⟨x, hxe⟩ : ∃ x, p.num = x := ⟨_, rfl⟩
 obtain ⟨y, hye⟩ : ∃ y, q.num = y := ⟨_, rfl⟩
 obtain ⟨X, hXe⟩ : ∃ X, p.den = X := ⟨_, rfl⟩
 obtain ⟨Y, hYe⟩ : ∃ Y, q.den = Y := ⟨_, rfl⟩
 have hlow0 := add_low p.reduced q.reduced (qbs p.den_nz)
 have hX0 : 0 < X := hXe ▸ qbs p.den_nz
 have hY0 : 0 < Y := hYe ▸ qbs q.den_nz
 obtain ⟨fx, fX⟩ := hp
 obtain ⟨fy, fY⟩ := hq
 rw [hxe] at hx fx ⊢
 rw [hye] at hy fy ⊢
 rw [hXe] at hX fX
 rw [hYe] at hY fY
 rw [hxe, hye, hXe, hYe] at hlow0
 have hg0 : 0 < X.gcd Y := Nat.gcd_pos_of_pos_left _ hX0
 have fg : Fit (X.gcd Y) K := fY.le (Nat.gcd_le_right _ hY0)
 obtain ⟨l, hl⟩ : ∃ l, Y / X.gcd Y = l := ⟨_, rfl⟩
 obtain ⟨r, hr⟩ : ∃ r, X / X.gcd Y = r := ⟨_, rfl⟩
 have fl : Fit l K := hl ▸ fY.le (qaU _ _)
 have fr : Fit r K := hr ▸ fX.le (qaU _ _)
 have hr0 : 0 < r := hr ▸ Nat.div_pos (Nat.le_of_dvd hX0 (qbY X Y)) hg0
 obtain ⟨S, hS⟩ : ∃ S : Int, x * l + y * r = S := ⟨_, rfl⟩
 have hlow := hlow0 S (by rw [hl, hr]; exact hS.symm)
 rw [hr] at hlow
 have g1 : Fit (x * l).natAbs (K + K) := by rw [qaC, qat]; exact fx.mul fl
 have g2 : Fit (y * r).natAbs (K + K) := by rw [qaC, qat]; exact fy.mul fr
 have fS : Fit S.natAbs (K + K + 1) := by rw [← hS]; exact (Fit.add g1 g2).le (Int.natAbs_add_le _ _)
 have hh0 : 0 < S.natAbs.gcd (X.gcd Y) := qbq _ hg0
 have fh : Fit (S.natAbs.gcd (X.gcd Y)) K := fg.le (Nat.gcd_le_right _ hg0)
 obtain ⟨h, hh⟩ : ∃ h, S.natAbs.gcd (X.gcd Y) = h := ⟨_, rfl⟩
 rw [hh] at hlow hh0 fh
 have hhg : h ∣ Y := hh ▸ Nat.dvd_trans (qbe _ _) (qbe _ _)
 have hres : ∀ (W : World) (m o : Value), IntAt W m (if decide (S < 0) = true then -((S.natAbs / h : Nat) : Int) else ((S.natAbs / h : Nat) : Int)) → MagAt W o (r * (Y / h)) → ∃ a n c b d e f, m = .agg #[.slice a n c, .bool b] ∧ o = .slice d e f ∧ RatV W (.agg #[.slice a n c, .bool b, .slice d e f]) (p + q) := by
  intro W m o hm ho
  have hsg : (if decide (S < 0) = true then -((S.natAbs / h : Nat) : Int) else ((S.natAbs / h : Nat) : Int)) = S.tdiv (h : Int) := by
   have := frac.qmz S (h : Int)
   rw [decide_eq_false (by omega : ¬ (h : Int) < 0), Bool.bne_false, qat] at this
   exact this
  rw [hsg] at hm
  have hza : (S.tdiv (h : Int)).natAbs = S.natAbs / h := by rw [Int.natAbs_tdiv, qat]; rfl
  have hnd : r * (Y / h) ≠ 0 := qbK (qbV hr0 (Nat.div_pos (Nat.le_of_dvd hY0 hhg) hh0))
  have hq := rat_add (p := p) (q := q) (z := S.tdiv (h : Int)) (d := r * (Y / h)) hnd (by rw [hza]; exact hlow.1) (by
   rw [hxe, hye, hXe, hYe]; exact hlow.2)
  obtain ⟨a, n, c, b, rfl⟩ := frac.qb8 hm
  obtain ⟨m', hm1, hm2⟩ := hm
  obtain ⟨ao, bo, oo, co, no, O, rfl, Io, hO⟩ := ho
  refine ⟨a, n, c, b, ao, no, co, rfl, rfl, m', .slice ao no co, ?_, ?_, ?_⟩
  ·simp only [qba, qbg, qa5] at hm1
   rw [hq.1, ← hm1.1, ← hm1.2.1]
  ·rw [hq.1]; exact hm2
  ·rw [hq.2]; exact ⟨ao, bo, oo, co, no, O, rfl, Io, hO⟩
 have HRES := qH hres
 have hix : ∀ W a n c, MagAt W (.slice a n c) x.natAbs → IntAt W (.agg #[.slice a n c, .bool (decide (x < 0))]) x := fun W a n c h => ⟨_, rfl, h⟩
 have hiy : ∀ W a n c, MagAt W (.slice a n c) y.natAbs → IntAt W (.agg #[.slice a n c, .bool (decide (y < 0))]) y := fun W a n c h => ⟨_, rfl, h⟩
 generalize decide (x < 0) = b0 at *
 generalize decide (y < 0) = b1 at *
 have HX := qH (qA hx (qA hX (qA hy hY)))
 have HF := qH (qA fx (qA fX (qA fy fY)))
 have HF2 := qH (qA fl (qA fr (qA g1 (qA g2 (qA fS fh)))))
 have HP := qH (qA hX0 (qA hY0 (qA hg0 (qA hh0 fg))))
 have HE := qH (qA hl (qA hr (qA hS hh)))
 have HK := qH hK
 have HIX := qH hix
 have HIY := qH hiy
 obtain ⟨a0, _, _, c0, n0, _, rfl, _, _⟩ := hx
 obtain ⟨d0, _, _, f0, e0, _, rfl, _, _⟩ := hX
 obtain ⟨a1, _, _, c1, n1, _, rfl, _, _⟩ := hy
 obtain ⟨d1, _, _, f1, e1, _, rfl, _, _⟩ := hY
 clear hlow hlow0 hres hX0 hY0 hg0 hh0 fg fh fx fX fy fY hK hxe hye hXe hYe hl hr hS hh fl fr fS g1 g2 hr0 hhg hix hiy
 obtain ⟨W1, hW1⟩ : ∃ W1, W1 = ((w.alloc (.cells #[.slice a0 n0 c0, .bool b0, .slice d0 e0 f0] 138)).alloc (.cells #[.slice a1 n1 c1, .bool b1, .slice d1 e1 f1] 138)).alloc (.cells #[.slice none 0 0, .bool false, .slice none 0 0] 138) := ⟨_, rfl⟩
 have hb1 : Below w.heap.size w W1 := hW1 ▸ qb1 (qb1 (qb1 qB qN) qN) qN
 have hr0 : W1.heap[w.heap.size]? = some (.cells #[.slice a0 n0 c0, .bool b0, .slice d0 e0 f0] 138 (0, 0)) := by rw [hW1, qL _ _ _ (by simp only [qab]; omega), qL _ _ _ (by simp only [qab]; omega)]; exact qM _ _ _ (by simp)
 have hr1 : W1.heap[w.heap.size + 1]? = some (.cells #[.slice a1 n1 c1, .bool b1, .slice d1 e1 f1] 138 (0, 0)) := by rw [hW1, qL _ _ _ (by simp only [qab]; omega)]; exact qM _ _ _ (by simp)
 have hr2 : W1.heap[w.heap.size + 1 + 1]? = some (.cells #[.slice none 0 0, .bool false, .slice none 0 0] 138 (0, 0)) := by rw [hW1]; exact qM _ _ _ (by simp)
 have l2 : w.heap.size + 1 + 1 < W1.heap.size := (qG hr2).1
 have C00 : ∀ W, Below (w.heap.size + 1 + 1) W1 W → W.cell? ⟨w.heap.size, 0, none⟩ = some (.slice a0 n0 c0) := fun W h => (h.cell (p := ⟨w.heap.size, 0, none⟩) (by show w.heap.size < _; omega)).trans (cell_of_row _ _ 0 _ _ _ hr0)
 have C01 : ∀ W, Below (w.heap.size + 1 + 1) W1 W → W.cell? ⟨w.heap.size, 1, none⟩ = some (.bool b0) := fun W h => (h.cell (p := ⟨w.heap.size, 1, none⟩) (by show w.heap.size < _; omega)).trans (cell_of_row _ _ 1 _ _ _ hr0)
 have C02 : ∀ W, Below (w.heap.size + 1 + 1) W1 W → W.cell? ⟨w.heap.size, 2, none⟩ = some (.slice d0 e0 f0) := fun W h => (h.cell (p := ⟨w.heap.size, 2, none⟩) (by show w.heap.size < _; omega)).trans (cell_of_row _ _ 2 _ _ _ hr0)
 have C10 : ∀ W, Below (w.heap.size + 1 + 1) W1 W → W.cell? ⟨w.heap.size + 1, 0, none⟩ = some (.slice a1 n1 c1) := fun W h => (h.cell (p := ⟨w.heap.size + 1, 0, none⟩) (by show w.heap.size + 1 < _; omega)).trans (cell_of_row _ _ 0 _ _ _ hr1)
 have C11 : ∀ W, Below (w.heap.size + 1 + 1) W1 W → W.cell? ⟨w.heap.size + 1, 1, none⟩ = some (.bool b1) := fun W h => (h.cell (p := ⟨w.heap.size + 1, 1, none⟩) (by show w.heap.size + 1 < _; omega)).trans (cell_of_row _ _ 1 _ _ _ hr1)
 have C12 : ∀ W, Below (w.heap.size + 1 + 1) W1 W → W.cell? ⟨w.heap.size + 1, 2, none⟩ = some (.slice d1 e1 f1) := fun W h => (h.cell (p := ⟨w.heap.size + 1, 2, none⟩) (by show w.heap.size + 1 < _; omega)).trans (cell_of_row _ _ 2 _ _ _ hr1)
 have HR := qH (qA hb1 hr2)
 have Hl2 := qH l2
 clear hr0 hr1 hr2 hb1
 go_enter Tryz.func101, Tryz.ntmps101
 go_wp2_with fail
 rw [← hW1]
 clear hW1
 refine (frac.qeF X Y K (by have := HK.out; omega) _ _ W1 (HX.out.2.1.below HR.out.1) (HX.out.2.2.2.below HR.out.1) HF.out.2.1 HF.out.2.2.2).mono ?_
 rintro e w2 ⟨vg, rfl, hb, hv⟩
 have Mw2_g := qH hv
 have Hw2 : Hid (Below w.heap.size w w2 ∧ Below (w.heap.size + 1 + 1) W1 w2) := qH ⟨HR.out.1.trans (hb.mono HR.out.1.size), hb.mono (qao Hl2.out)⟩
 have Rw2 := qH ((hb.block _ (qG HR.out.2).1).trans HR.out.2)
 obtain ⟨sg, _, _, ug, tg, _, rfl, _, _⟩ := hv
 clear hb
 have k00 := C00 w2 Hw2.out.2
 have k01 := C01 w2 Hw2.out.2
 have k02 := C02 w2 Hw2.out.2
 have k10 := C10 w2 Hw2.out.2
 have k11 := C11 w2 Hw2.out.2
 have k12 := C12 w2 Hw2.out.2
 go_wp2_with fail
 refine (frac.qcp Y (X.gcd Y) K (by have := HK.out; omega) _ _ w2 (HX.out.2.2.2.below Hw2.out.1) Mw2_g.out HF.out.2.2.2 HP.out.2.2.2.2 HP.out.2.2.1).mono ?_
 rintro e w3 ⟨vl, _, rfl, hb, hv, _⟩
 rw [HE.out.1] at hv
 have Mw3_g := qH (Mw2_g.out.below hb)
 have Mw3_l := qH hv
 have Hw3 : Hid (Below w.heap.size w w3 ∧ Below (w.heap.size + 1 + 1) W1 w3) := qH ⟨Hw2.out.1.trans (hb.mono Hw2.out.1.size), (Hw2.out.2).trans (hb.mono (qam (qao Hl2.out) (Hw2.out.2).size))⟩
 have Rw3 := qH ((hb.block _ (qG Rw2.out).1).trans Rw2.out)
 obtain ⟨sl, _, _, ul, tl, _, rfl, _, _⟩ := hv
 clear hb
 clear k00
 have k00 := C00 w3 Hw3.out.2
 clear k01
 have k01 := C01 w3 Hw3.out.2
 clear k02
 have k02 := C02 w3 Hw3.out.2
 clear k10
 have k10 := C10 w3 Hw3.out.2
 clear k11
 have k11 := C11 w3 Hw3.out.2
 clear k12
 have k12 := C12 w3 Hw3.out.2
 go_wp2_with fail
 refine (frac.qcp X (X.gcd Y) K (by have := HK.out; omega) _ _ w3 (HX.out.2.1.below Hw3.out.1) Mw3_g.out HF.out.2.1 HP.out.2.2.2.2 HP.out.2.2.1).mono ?_
 rintro e w4 ⟨vr, _, rfl, hb, hv, _⟩
 rw [HE.out.2.1] at hv
 have Mw4_g := qH (Mw3_g.out.below hb)
 have Mw4_l := qH (Mw3_l.out.below hb)
 have Mw4_r := qH hv
 have Hw4 : Hid (Below w.heap.size w w4 ∧ Below (w.heap.size + 1 + 1) W1 w4) := qH ⟨Hw3.out.1.trans (hb.mono Hw3.out.1.size), (Hw3.out.2).trans (hb.mono (qam (qao Hl2.out) (Hw3.out.2).size))⟩
 have Rw4 := qH ((hb.block _ (qG Rw3.out).1).trans Rw3.out)
 obtain ⟨sr, _, _, ur, tr, _, rfl, _, _⟩ := hv
 clear hb
 clear k00
 have k00 := C00 w4 Hw4.out.2
 clear k01
 have k01 := C01 w4 Hw4.out.2
 clear k02
 have k02 := C02 w4 Hw4.out.2
 clear k10
 have k10 := C10 w4 Hw4.out.2
 clear k11
 have k11 := C11 w4 Hw4.out.2
 clear k12
 have k12 := C12 w4 Hw4.out.2
 have hst : Below w4.heap.size w4 w4 := Below.refl _ _
 have hstD : Below w4.heap.size w4 w4.drew := hst.drew
 have hdr : ∀ W : World, W.drew.heap.size = W.heap.size := fun _ => rfl
 have hs4 : w.heap.size + 1 + 1 < w4.heap.size := qak Hl2.out Hw4.out.2.size
 have D00 : ∀ W, Below w4.heap.size w4 W → W.cell? ⟨w.heap.size, 0, none⟩ = some (.slice a0 n0 c0) := fun W h => C00 W (Hw4.out.2.trans (h.mono (qao hs4)))
 have D01 : ∀ W, Below w4.heap.size w4 W → W.cell? ⟨w.heap.size, 1, none⟩ = some (.bool b0) := fun W h => C01 W (Hw4.out.2.trans (h.mono (qao hs4)))
 have D10 : ∀ W, Below w4.heap.size w4 W → W.cell? ⟨w.heap.size + 1, 0, none⟩ = some (.slice a1 n1 c1) := fun W h => C10 W (Hw4.out.2.trans (h.mono (qao hs4)))
 have D11 : ∀ W, Below w4.heap.size w4 W → W.cell? ⟨w.heap.size + 1, 1, none⟩ = some (.bool b1) := fun W h => C11 W (Hw4.out.2.trans (h.mono (qao hs4)))
 have HC := qH (qA C00 (qA C01 (qA C02 (qA C10 (qA C11 C12)))))
 clear C00 C01 C02 C10 C11 C12 k00 k01 k02 k10 k11 k12
 go_upto_region 4 with fail
 go_cut [10] (fun x10 W => ∃ (g7 : Nat) (a7 : Option Addr) (n7 c7 : Nat) (b7 : Bool), x10 = .pointer (some ⟨g7, 0, none⟩) ∧ One w4 W g7 (a7, n7, c7, b7) S)
 case first =>
  go_region_held3 (fun W => Below w4.heap.size w4 W) (first | with_reducible exact hst | with_reducible exact hstD | with_reducible exact HB7 | with_reducible exact HB6 | with_reducible exact HB5 | ((repeat (first | refine Below.setCell ?_ (by first | exact qaf _ | exact HB7.size | exact HB6.size | exact HB5.size | exact qah qN) _ | refine qb1 ?_ qN | refine Below.drew ?_)); first | exact HB7 | exact HB6 | exact HB5 | exact hst)) (first | (go_at_call_of 136 (Value.slice sl tl ul); refine (frac.qc9 x l K K (by have := HK.out; omega) _ _ _ (HIX.out _ _ _ _ (HX.out.1.below (Hw4.out.1.trans (Below.mono (by ((repeat (first | refine Below.setCell ?_ (by first | exact qaf _ | exact HB7.size | exact HB6.size | exact HB5.size | exact qah qN) _ | refine qb1 ?_ qN | refine Below.drew ?_)); first | exact hst)) Hw4.out.1.size)))) (Mw4_l.out.below (by ((repeat (first | refine Below.setCell ?_ (by first | exact qaf _ | exact HB7.size | exact HB6.size | exact HB5.size | exact qah qN) _ | refine qb1 ?_ qN | refine Below.drew ?_)); first | exact hst))) HF.out.1 HF2.out.1).mono ?_; rintro e w5 ⟨p5, rfl, hb5, hp5⟩; have HB5 : Below w4.heap.size w4 w5 := bjoin (by ((repeat (first | refine Below.setCell ?_ (by first | exact qaf _ | exact HB7.size | exact HB6.size | exact HB5.size | exact qah qN) _ | refine qb1 ?_ qN | refine Below.drew ?_)); first | exact hst)) hb5; obtain ⟨a5, n5, c5, b5, rfl⟩ := frac.qb8 hp5; obtain ⟨k5, k5f⟩ := bcell hb5; have Z5 := qH (zkeep hb5); have s5 : _ ≤ _ := hb5.size; (try simp only [qab, hdr] at s5); have I5 := qH hp5; (try have q5 : w4.heap.size < w5.heap.size := by omega); clear hb5 hp5) | (go_at_call_of 136 (Value.slice sr tr ur); refine (frac.qc9 y r K K (by have := HK.out; omega) _ _ _ (HIY.out _ _ _ _ (HX.out.2.2.1.below (Hw4.out.1.trans (Below.mono (by ((repeat (first | refine Below.setCell ?_ (by first | exact qaf _ | exact HB7.size | exact HB6.size | exact HB5.size | exact qah qN) _ | refine qb1 ?_ qN | refine Below.drew ?_)); first | exact HB5)) Hw4.out.1.size)))) (Mw4_r.out.below (by ((repeat (first | refine Below.setCell ?_ (by first | exact qaf _ | exact HB7.size | exact HB6.size | exact HB5.size | exact qah qN) _ | refine qb1 ?_ qN | refine Below.drew ?_)); first | exact HB5))) HF.out.2.2.1 HF2.out.2.1).mono ?_; rintro e w6 ⟨p6, rfl, hb6, hp6⟩; have HB6 : Below w4.heap.size w4 w6 := bjoin (by ((repeat (first | refine Below.setCell ?_ (by first | exact qaf _ | exact HB7.size | exact HB6.size | exact HB5.size | exact qah qN) _ | refine qb1 ?_ qN | refine Below.drew ?_)); first | exact HB5)) hb6; obtain ⟨a6, n6, c6, b6, rfl⟩ := frac.qb8 hp6; obtain ⟨k6, k6f⟩ := bcell hb6; have Z6 := qH (zkeep hb6); have s6 : _ ≤ _ := hb6.size; (try simp only [qab] at s6); have J6 : Hid (IntAt w6 _ _) := qH (by first | exact I5.out.below hb6 | exact (I5.out.below (qb1 qB qN)).below hb6); have I6 := qH hp6; (try have q6 : w4.heap.size < w6.heap.size := by omega); (try have r6 : w5.heap.size < w6.heap.size := by omega); clear hb6 hp6) | (go_at_call 137; refine (frac.qeN (x * (l : Int)) (y * (r : Int)) (K + K) (by have := HK.out; omega) _ _ _ (by first | exact J6.out | exact J6.out.below (qb1 qB qN)) (by first | exact I6.out | exact I6.out.below (qb1 qB qN)) HF2.out.2.2.1 HF2.out.2.2.2.1).mono ?_; rintro e w7 ⟨p7, rfl, hb7, hp7⟩; rw [HE.out.2.2.1] at hp7; have HB7 : Below w4.heap.size w4 w7 := bjoin (by ((repeat (first | refine Below.setCell ?_ (by first | exact qaf _ | exact HB7.size | exact HB6.size | exact HB5.size | exact qah qN) _ | refine qb1 ?_ qN | refine Below.drew ?_)); first | exact HB6)) hb7; obtain ⟨a7, n7, c7, b7, rfl⟩ := frac.qb8 hp7; obtain ⟨k7, k7f⟩ := bcell hb7; have Z7 := qH (zkeep hb7); have s7 : _ ≤ _ := hb7.size; (try simp only [qab] at s7); have I7 := qH hp7; (try have q7 : w4.heap.size < w7.heap.size := by omega); (try have r7 : w5.heap.size < w7.heap.size := by omega); (try have t7 : w6.heap.size < w7.heap.size := by omega); clear hb7 hp7))
  all_goals go_wp2_with fail
  all_goals go_meet
  all_goals refine ⟨_, a7, n7, c7, b7, rfl, ?_⟩
  all_goals first
   | with_reducible exact one_a I7.out HB7
   | (with_reducible refine one_p I7.out HB7 ?_ ?_; (first | exact qaf _ | exact HB5.size | exact HB6.size | exact HB7.size); (refine Z7.out _ _ ?_; first | (refine qM _ _ _ ?_; ((try simp only) <;> omega)) | (refine Z6.out _ _ ?_; first | (refine qM _ _ _ ?_; ((try simp only) <;> omega)) | (refine Z5.out _ _ ?_; (try with_reducible refine zdrew ?_); (refine qM _ _ _ ?_; ((try simp only) <;> omega))))))
 case rest =>
  obtain ⟨g7, a7, n7, c7, b7, rfl, h7, i7, hb7⟩ := hcut
  dsimp only at h7 i7
  obtain ⟨m7, hm7, hg7⟩ := i7
  have e7 : m7 = .slice a7 n7 c7 ∧ b7 = decide (S < 0) := by
   simp only [qba, qbg, qa5, qbF] at hm7
   exact ⟨hm7.1.symm, hm7.2.1⟩
  obtain ⟨rfl, hb7v⟩ := e7
  have HG7 := qH (qA hg7 (qA h7 (qA hb7 hb7v)))
  have HB := qH (qA (Hw4.out.1.trans (hb7.mono Hw4.out.1.size)) (qA (Hw4.out.2.trans (hb7.mono (qao hs4))) ((hb7.block _ (qG Rw4.out).1).trans Rw4.out)))
  have Mg := qH (Mw4_g.out.below hb7)
  have Mr := qH (Mw4_r.out.below hb7)
  have q0 := cell_of_row wc _ 0 _ _ _ h7
  clear hm7 hg7 h7 hb7 hb7v D00 D01 D10 D11
  go_wp2_with fail
  refine (frac.qeF S.natAbs (X.gcd Y) (K + K + 1) (by have := HK.out; omega) _ _ wc HG7.out.1 Mg.out HF2.out.2.2.2.2.1 (HP.out.2.2.2.2.mono (by omega))).mono ?_
  rintro e w8 ⟨vh, rfl, hb, hv⟩
  rw [HE.out.2.2.2] at hv
  have Mh8 := qH hv
  have MS8 := qH (HG7.out.1.below hb)
  have Mr8 := qH (Mr.out.below hb)
  have H8 := qH (qA (HB.out.1.trans (hb.mono HB.out.1.size)) (qA (HB.out.2.1.trans (hb.mono (qam (qao Hl2.out) HB.out.2.1.size))) (qA ((hb.block _ (qG HB.out.2.2).1).trans HB.out.2.2) ((hb.block _ (qG HG7.out.2.1).1).trans HG7.out.2.1))))
  have q0 := cell_of_row w8 _ 0 _ _ _ H8.out.2.2.2
  obtain ⟨sh, _, _, uh, th, _, rfl, _, _⟩ := hv
  clear hb
  go_wp2_with fail
  refine (frac.qcp S.natAbs h (K + K + 1) (by have := HK.out; omega) _ _ w8 MS8.out Mh8.out HF2.out.2.2.2.2.1 (HF2.out.2.2.2.2.2.mono (by omega)) HP.out.2.2.2.1).mono ?_
  rintro e w9 ⟨vn, _, rfl, hb, hv, _⟩
  have Mh9 := qH (Mh8.out.below hb)
  have Mn9 := qH hv
  have Mr9 := qH (Mr8.out.below hb)
  have H9 := qH (qA (H8.out.1.trans (hb.mono H8.out.1.size)) (qA (H8.out.2.1.trans (hb.mono (qam (qao Hl2.out) H8.out.2.1.size))) (qA ((hb.block _ (qG H8.out.2.2.1).1).trans H8.out.2.2.1) ((hb.block _ (qG H8.out.2.2.2).1).trans H8.out.2.2.2))))
  have k12 := HC.out.2.2.2.2.2 w9 H9.out.2.1
  have q1 := cell_of_row w9 _ 1 _ _ _ H9.out.2.2.2
  obtain ⟨sn, _, _, un, tn, _, rfl, _, _⟩ := hv
  clear hb q0
  go_wp2_with fail
  refine (frac.qcp Y h K (by have := HK.out; omega) _ _ w9 (HX.out.2.2.2.below H9.out.1) Mh9.out HF.out.2.2.2 HF2.out.2.2.2.2.2 HP.out.2.2.2.1).mono ?_
  rintro e w10 ⟨vt, _, rfl, hb, hv, _⟩
  have Mt10 := qH hv
  have Mn10 := qH (Mn9.out.below hb)
  have Mr10 := qH (Mr9.out.below hb)
  have H10 := qH (qA (H9.out.1.trans (hb.mono H9.out.1.size)) (qA ((hb.block _ (qG H9.out.2.2.1).1).trans H9.out.2.2.1) ((hb.block _ (qG H9.out.2.2.2).1).trans H9.out.2.2.2)))
  have q1 := cell_of_row w10 _ 1 _ _ _ H10.out.2.2
  obtain ⟨st, _, _, ut, tt, _, rfl, _, _⟩ := hv
  clear hb k12
  go_wp2_with fail
  refine (frac.qcv (S.natAbs / h) b7 _ w10 Mn10.out).mono ?_
  rintro e w11 ⟨v11, rfl, hb, hv⟩
  rw [HG7.out.2.2.2] at hv
  have I11 := qH hv
  have Mt11 := qH (Mt10.out.below hb)
  have Mr11 := qH (Mr10.out.below hb)
  have H11 := qH (qA (H10.out.1.trans (hb.mono H10.out.1.size)) ((hb.block _ (qG H10.out.2.1).1).trans H10.out.2.1))
  obtain ⟨a9, n9, c9, b9, rfl⟩ := frac.qb8 hv
  clear hb hv q1
  go_wp2_with fail
  refine (frac.qcB r (Y / h) K K (by have := HK.out; omega) _ _ w11 Mr11.out Mt11.out HF2.out.2.1 (HF.out.2.2.2.le (qaU _ _))).mono ?_
  rintro e w12 ⟨v12, rfl, hb, hv⟩
  obtain ⟨a8, n8, c8, b8, d8, e8, f8, hm8, ho8, hv8⟩ := HRES.out w12 _ _ (I11.out.below hb) hv
  have hm8' : a8 = a9 ∧ n8 = n9 ∧ c8 = c9 ∧ b8 = b9 := by
   simp only [qba, qbg, qa5, Value.slice.injEq, qbF] at hm8
   exact ⟨hm8.1.1.symm, hm8.1.2.1.symm, hm8.1.2.2.symm, hm8.2.1.symm⟩
  obtain ⟨rfl, rfl, rfl, rfl⟩ := hm8'
  subst ho8
  have H12 := qH (qA ((hb.block _ (qG H11.out.2).1).trans H11.out.2) (qA (H11.out.1.trans (hb.mono H11.out.1.size)) hv8))
  clear hb hv hm8 hv8
  go_wp2_with ((with_reducible refine wpList_store_row rfl 138 _ _ rfl (w.heap.size + 1 + 1) #[.slice a8 n8 c8, .bool b8, .slice d8 e8 f8] ?_ ?_ 138 _ H12.out.1 3 ?_ ?_ ?_ ?_ ?_); (next => rfl); (next => rfl); (next => kernel_rfl); (next => rfl); (next => rfl); (next => rfl))
  exact bodyPost_ret (v := .agg #[.slice a8 n8 c8, .bool b8, .slice d8 e8 f8]) (qb9 rfl _ _ (w.heap.size + 1 + 1) 138 _ _ rfl (setRow_heap _ _ _ _ _ _ H12.out.1) Tryz.underlying138 rfl 3 (by kernel_rfl) rfl) rfl ⟨_, rfl, below_setRow H12.out.2.1 (by omega) _, qgl H12.out.2.2 H12.out.1⟩
def fval (n d : List UInt8) : Rat := mkRat (ival n) (ival d).natAbs
theorem FOk.val {n d : List UInt8} (h : FOk n d) : (fval n d).num = ival n ∧ (fval n d).den = (ival d).natAbs := by
 have h0 : (ival d).natAbs ≠ 0 := by have := h.pos; omega
 exact qkl h0 h.cop h0 rfl rfl
theorem FOk.fit {n d : List UInt8} (h : FOk n d) : RFit (fval n d) 67 := by
 unfold RFit
 rw [h.val.1, h.val.2]; exact ⟨h.vn.fit, h.vd.fit⟩
theorem FOk.at {n d : List UInt8} (h : FOk n d) {W : World} {v : Value} (hv : RatAt W v (ival n) (ival d).natAbs) : RatV W v (fval n d) := by
 unfold RatV; rw [h.val.1, h.val.2]; exact hv
theorem qdr {W : World} {v : Value} {ok : Bool} {n d : List UInt8} (h : ok = true ∧ FOk n d ∧ RatAt W v (ival n) (ival d).natAbs ∨ ok = false ∧ ¬ FOk n d ∧ v = .agg #[.slice none 0 0, .bool false, .slice none 0 0]) : ∃ (a : Option Addr) (x c : Nat) (b : Bool) (d' : Option Addr) (e f : Nat), v = .agg #[.slice a x c, .bool b, .slice d' e f] := by
 rcases h with ⟨_, _, h⟩ | ⟨_, _, h⟩
 ·exact qeu h
 ·exact ⟨_, _, _, _, _, _, _, h⟩
theorem qhC (n d : ByteArray) (w : World) :
  Calls Tryz.prog 47 #[.agg #[.string n, .string d]] w fun e w' => qhX w (FOk n.data.toList d.data.toList) 20 e w' := by
 have HR := qH (fun W => qd0 n d W)
 have HA : Hid (∀ cs, Below w.heap.size w (w.alloc (.cells cs 46))) := qH fun cs => qB.alloc qN _
 go_enter Tryz.func47, Tryz.ntmps47
 go_wp2_with fail
 refine (HR.out _).mono ?_
 rintro e w1 ⟨v, ok, rfl, hok, hb⟩
 obtain ⟨a, x, c, b, d', e', f', rfl⟩ := qdr hok
 have hb0 : Below w.heap.size w w1 := (HA.out _).trans (hb.mono (HA.out _).size)
 have HB := qH (qb1 (o := .cells #[.slice a x c, .bool b, .slice d' e' f'] 138) hb0 qN)
 clear hb hb0
 rcases hok with ⟨rfl, hf, _⟩ | ⟨rfl, hf, _⟩
 ·have HF := qH hf
  clear hf
  go_wp2_with fail
  go_ret
  exact ⟨0, rfl, qaA ⟨rfl, HF.out⟩, HB.out⟩
 ·have HF := qH hf
  clear hf
  go_wp2_with fail
  go_ret
  exact ⟨20, rfl, qas ⟨rfl, HF.out⟩, HB.out⟩
def Short (q : Rat) : Prop := (num q.num.natAbs).size ≤ 600 ∧ (num q.den).size ≤ 600
def fstr (q : Rat) : Value := .agg #[.string (frac.wtxt q.num), .string (num q.den)]
def qfq (w : World) (q : Rat) (e : Ending) (w' : World) : Prop := (Short q ∧ e = .returned (.tuple #[fstr q, .int .i64 0]) ∨ ¬ Short q ∧ e = .returned (.tuple #[.agg #[.string ⟨#[]⟩, .string ⟨#[]⟩], .int .i64 6])) ∧ Below w.heap.size w w'
theorem qk5 (q : Rat) (K : Nat) (hK0 : 0 < K) (hK : K ≤ 34359738368) (v : Value) (w : World) (hv : RatV w v q) (hq : RFit q K) (hT : HasT w) :
  Calls Tryz.prog 146 #[v] w fun e w' => qfq w q e w' := by
 obtain ⟨m, o, rfl, hm, ho⟩ := hv
 have hi : ∀ W, Below w.heap.size w W → IntAt W (.agg #[m, .bool (decide (q.num < 0))]) q.num := fun W h => ⟨m, rfl, hm.below h⟩
 have l1 := qH (fun (W : World) (h : Below w.heap.size w W) => frac.qer q.num.natAbs K (by omega) m W (hm.below h) hq.1 (hT.below h))
 have l2 := qH (fun (W : World) (h : Below w.heap.size w W) => frac.qer q.den K (by omega) o W (ho.below h) hq.2 (hT.below h))
 have t1 := qH (fun (W : World) (h : Below w.heap.size w W) => frac.qfg q.num K hK0 (by omega) _ W (hi W h) hq.1 (hT.below h))
 have t2 := qH (fun (W : World) (h : Below w.heap.size w W) => frac.qek q.den K (by omega) o W (ho.below h) hq.2 (hT.below h))
 generalize decide (q.num < 0) = b0 at *
 obtain ⟨a0, _, _, c0, n0, _, rfl, _, _⟩ := hm
 obtain ⟨d0, _, _, f0, e0, _, rfl, _, _⟩ := ho
 clear hi hT hq hK
 obtain ⟨L1, hL1⟩ : ∃ L, (num q.num.natAbs).size = L := ⟨_, rfl⟩
 obtain ⟨L2, hL2⟩ : ∃ L, (num q.den).size = L := ⟨_, rfl⟩
 have hsh : Short q ↔ L1 ≤ 600 ∧ L2 ≤ 600 := by unfold Short; rw [hL1, hL2]
 rw [hL1] at l1
 rw [hL2] at l2
 have HSh := qH hsh
 obtain ⟨W1, hW1⟩ : ∃ W1, W1 = (w.alloc (.cells #[.slice a0 n0 c0, .bool b0, .slice d0 e0 f0] 138)).alloc (.cells #[.string ⟨#[]⟩, .string ⟨#[]⟩] 46) := ⟨_, rfl⟩
 have hb1 : Below w.heap.size w W1 := hW1 ▸ qb1 (qb1 qB qN) qN
 have hr0 : W1.heap[w.heap.size]? = some (.cells #[.slice a0 n0 c0, .bool b0, .slice d0 e0 f0] 138 (0, 0)) := by rw [hW1, qL _ _ _ (by simp only [qab]; omega)]; exact qM _ _ _ rfl
 have hr1 : W1.heap[w.heap.size + 1]? = some (.cells #[.string ⟨#[]⟩, .string ⟨#[]⟩] 46 (0, 0)) := by rw [hW1]; exact qM _ _ _ (by simp)
 have HR := qH (qA hb1 (qA hr0 hr1))
 clear hsh hL1 hL2 hb1 hr0 hr1
 go_enter Tryz.func146, Tryz.ntmps146
 go_wp2_with fail
 rw [← hW1]
 clear hW1
 refine (l1.out W1 HR.out.1).mono ?_
 rintro e w2 ⟨rfl, hb2⟩
 have H2 := qH (qA (HR.out.1.trans (hb2.mono HR.out.1.size)) (qA ((hb2.block _ (qG HR.out.2.1).1).trans HR.out.2.1) ((hb2.block _ (qG HR.out.2.2).1).trans HR.out.2.2)))
 clear hb2
 by_cases h1 : (600 : Int) < L1
 ·have HN : Hid (¬ Short q) := qH (fun h => by have := HSh.out.1 h; omega)
  go_wp2_with ((with_reducible refine wpList_store_row rfl 46 _ _ rfl (w.heap.size + 1) #[.string ⟨#[]⟩, .string ⟨#[]⟩] ?_ ?_ 46 _ H2.out.2.2 2 ?_ ?_ ?_ ?_ ?_); (next => rfl); (next => rfl); (next => kernel_rfl); (next => rfl); (next => rfl); (next => rfl))
  exact bodyPost_ret (v := .tuple #[.agg #[.string ⟨#[]⟩, .string ⟨#[]⟩], .int .i64 6]) (qb6 rfl _ _ (w.heap.size + 1) 46 _ _ rfl (setRow_heap _ _ _ _ _ _ H2.out.2.2) Tryz.underlying46 rfl 2 (by kernel_rfl) rfl _ rfl) rfl ⟨qas ⟨HN.out, rfl⟩, below_setRow H2.out.1 (by omega) _⟩
 ·have k2 := cell_of_row w2 _ 2 _ _ _ H2.out.2.1
  go_wp2_with fail
  refine (l2.out w2 H2.out.1).mono ?_
  rintro e w3 ⟨rfl, hb3⟩
  have H3 := qH (qA (H2.out.1.trans (hb3.mono H2.out.1.size)) (qA ((hb3.block _ (qG H2.out.2.1).1).trans H2.out.2.1) ((hb3.block _ (qG H2.out.2.2).1).trans H2.out.2.2)))
  clear hb3 k2
  by_cases h2 : (600 : Int) < L2
  ·have HN : Hid (¬ Short q) := qH (fun h => by have := HSh.out.1 h; omega)
   go_wp2_with ((with_reducible refine wpList_store_row rfl 46 _ _ rfl (w.heap.size + 1) #[.string ⟨#[]⟩, .string ⟨#[]⟩] ?_ ?_ 46 _ H3.out.2.2 2 ?_ ?_ ?_ ?_ ?_); (next => rfl); (next => rfl); (next => kernel_rfl); (next => rfl); (next => rfl); (next => rfl))
   exact bodyPost_ret (v := .tuple #[.agg #[.string ⟨#[]⟩, .string ⟨#[]⟩], .int .i64 6]) (qb6 rfl _ _ (w.heap.size + 1) 46 _ _ rfl (setRow_heap _ _ _ _ _ _ H3.out.2.2) Tryz.underlying46 rfl 2 (by kernel_rfl) rfl _ rfl) rfl ⟨qas ⟨HN.out, rfl⟩, below_setRow H3.out.1 (by omega) _⟩
  ·have HY : Hid (Short q) := qH (HSh.out.2 (by omega))
   have hs3 : w.heap.size + 1 < w3.heap.size := (qG H3.out.2.2).1
   have C0 : ∀ W, Below (w.heap.size + 1) w3 W → W.cell? ⟨w.heap.size, 0, none⟩ = some (.slice a0 n0 c0) := fun W h => (h.cell (p := ⟨w.heap.size, 0, none⟩) (by show w.heap.size < _; omega)).trans (cell_of_row _ _ 0 _ _ _ H3.out.2.1)
   have C1 : ∀ W, Below (w.heap.size + 1) w3 W → W.cell? ⟨w.heap.size, 1, none⟩ = some (.bool b0) := fun W h => (h.cell (p := ⟨w.heap.size, 1, none⟩) (by show w.heap.size < _; omega)).trans (cell_of_row _ _ 1 _ _ _ H3.out.2.1)
   have C2 : ∀ W, Below (w.heap.size + 1) w3 W → W.cell? ⟨w.heap.size, 2, none⟩ = some (.slice d0 e0 f0) := fun W h => (h.cell (p := ⟨w.heap.size, 2, none⟩) (by show w.heap.size < _; omega)).trans (cell_of_row _ _ 2 _ _ _ H3.out.2.1)
   have hst : Below (w.heap.size + 1) w3 w3 := Below.refl _ _
   have hstD : Below (w.heap.size + 1) w3 w3.drew := hst.drew
   have Hs3 := qH hs3
   obtain ⟨T1, hT1⟩ : ∃ T, frac.wtxt q.num = T := ⟨_, rfl⟩
   obtain ⟨T2, hT2⟩ : ∃ T, num q.den = T := ⟨_, rfl⟩
   rw [hT1] at t1
   rw [hT2] at t2
   have HTT := qH (qA hT1 hT2)
   clear hs3 hT1 hT2
   go_wp2_with fail
   go_region_held3 (fun W => Below (w.heap.size + 1) w3 W) (first | with_reducible exact hst | with_reducible exact hstD | with_reducible exact HB5 | with_reducible exact HB4 | ((iterate 2 refine Below.setCell ?_ (by exact qaf _) _); exact HB5)) (first | (go_at_call 179; refine (t1.out _ (H3.out.1.trans (hstD.mono (by omega)))).mono ?_; rintro e w4 ⟨rfl, hb4⟩; have HB4 : Below (w.heap.size + 1) w3 w4 := hstD.trans (hb4.mono (qao Hs3.out)); have R4 := qH ((hb4.block _ Hs3.out).trans H3.out.2.2); clear hb4) | (go_at_call 180; refine (t2.out _ (H3.out.1.trans (HB4.mono (by omega)))).mono ?_; rintro e w5 ⟨rfl, hb5⟩; have HB5 : Below (w.heap.size + 1) w3 w5 := HB4.trans (hb5.mono (qam (qao Hs3.out) HB4.size)); have hr5 := (hb5.block _ (qG R4.out).1).trans R4.out; have e0 := cell_of_row w5 _ 0 _ _ _ hr5; have e1 := cell_of_row w5 _ 1 _ _ _ hr5; have f0 := frozen_of_row w5 _ 0 _ _ hr5; have f1 := frozen_of_row w5 _ 1 _ _ hr5; have R5 := qH hr5; clear hb5 hr5))
   go_wp2_with fail
   refine bodyPost_ret (v := .tuple #[.agg #[.string T1, .string T2], .int .i64 0]) (qb6 rfl _ _ (w.heap.size + 1) 46 #[.string T1, .string T2] _ rfl (heap_setCell_same _ _ 1 _ 46 _ (heap_setCell_same _ _ 0 _ 46 _ R5.out)) Tryz.underlying46 rfl 2 (by kernel_rfl) rfl _ rfl) rfl ⟨qaA ⟨HY.out, ?_⟩, H3.out.1.trans (((HB5.setCell (by exact qaf _) _).setCell (by exact qaf _) _).mono (by omega))⟩
   unfold fstr
   rw [show frac.wtxt q.num = T1 from HTT.out.1, HTT.out.2]
end Go.Proofs.YtfminfgabiipjaaGreatDoor
