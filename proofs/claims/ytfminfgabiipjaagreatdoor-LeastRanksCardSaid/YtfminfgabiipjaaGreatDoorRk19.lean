/- Rk, part 19: Fr3 Fr4 Fr6 Fr7 Fr8 -/
import Derived.Test.YtfminfgabiipjaaGreatDoorRk0
import Derived.Test.YtfminfgabiipjaaGreatDoorRk18
section
namespace Go.Proofs.YtfminfgabiipjaaGreatDoor
open Go.RowKit
def One (W2 W : World) (g : Nat) (v : Option Addr × Nat × Nat × Bool) (z : Int) : Prop :=
 W.heap[g]? = some (.cells #[.slice v.1 v.2.1 v.2.2.1, .bool v.2.2.2] 136 (0, 0)) ∧ IntAt W (.agg #[.slice v.1 v.2.1 v.2.2.1, .bool v.2.2.2]) z ∧ Below W2.heap.size W2 W
theorem rat_setRow {W : World} {v : Value} {q : Rat} {g : Nat} {t : TypeId} {cs' : Array Value} (hi : RatV W v q) (h : W.heap[g]? = some (.cells #[.slice none 0 0, .bool false, .slice none 0 0] t (0, 0))) : RatV (W.setRow g cs') v q := by
 obtain ⟨m, o, h1, h2, h3⟩ := hi
 exact ⟨m, o, h1, mag_setRow h2 h zero_ne3, mag_setRow h3 h zero_ne3⟩
theorem one_a {W2 W : World} {a : Option Addr} {n c : Nat} {b : Bool} {z : Int} (h : IntAt W (.agg #[.slice a n c, .bool b]) z) (hb : Below W2.heap.size W2 W) :
  One W2 (W.alloc (.cells #[.slice a n c, .bool b] 136)) W.heap.size (a, n, c, b) z :=
 ⟨qM _ _ _ rfl, h.below (balloc qB qN), balloc hb qN⟩
theorem one_p {W2 W : World} {g : Nat} {a : Option Addr} {n c : Nat} {b : Bool} {z : Int} (h : IntAt W (.agg #[.slice a n c, .bool b]) z) (hb : Below W2.heap.size W2 W) (hg : W2.heap.size ≤ g) (hz : W.heap[g]? = some (.cells #[.slice none 0 0, .bool false] 136 (0, 0))) :
  One W2 ((W.setCell ⟨g, 0, none⟩ (.slice a n c)).setCell ⟨g, 1, none⟩ (.bool b)) g (a, n, c, b) z := by
 obtain ⟨p1, p2, p3⟩ := put_int hz a n c b
 exact ⟨p1, p3 _ _ _ h, (hb.setCell (by exact hg) _).setCell (by exact hg) _⟩
set_option maxRecDepth 100000 in
set_option maxHeartbeats 2000000 in
theorem radd_any (p q : Rat) (K : Nat) (hK : K ≤ 34359738368) (v u : Value) (w : World) (hv : RatV w v p) (hu : RatV w u q) (hp : RFit p K) (hq : RFit q K) :
  Calls Tryz.prog 101 #[v, u] w fun e w' => ∃ r, e = .returned r ∧ Below w.heap.size w w' ∧ RatV w' r (p + q) := by
 obtain ⟨mx, mX, rfl, hx, hX⟩ := hv
 obtain ⟨my, mY, rfl, hy, hY⟩ := hu
 obtain ⟨x, hxe⟩ : ∃ x, p.num = x := ⟨_, rfl⟩
 obtain ⟨y, hye⟩ : ∃ y, q.num = y := ⟨_, rfl⟩
 obtain ⟨X, hXe⟩ : ∃ X, p.den = X := ⟨_, rfl⟩
 obtain ⟨Y, hYe⟩ : ∃ Y, q.den = Y := ⟨_, rfl⟩
 have hlow0 := add_low p.reduced q.reduced (Nat.pos_of_ne_zero p.den_nz)
 have hX0 : 0 < X := hXe ▸ Nat.pos_of_ne_zero p.den_nz
 have hY0 : 0 < Y := hYe ▸ Nat.pos_of_ne_zero q.den_nz
 obtain ⟨fx, fX⟩ := hp
 obtain ⟨fy, fY⟩ := hq
 rw [hxe] at hx fx ⊢
 rw [hye] at hy fy ⊢
 rw [hXe] at hX fX
 rw [hYe] at hY fY
 rw [hxe, hye, hXe, hYe] at hlow0
 have hg0 : 0 < X.gcd Y := Nat.gcd_pos_of_pos_left _ hX0
 have fg : Fit (X.gcd Y) K := fY.le (Nat.gcd_le_right _ hY0)
 obtain ⟨l, hl⟩ : ∃ l, Y / X.gcd Y = l := ⟨_, rfl⟩
 obtain ⟨r, hr⟩ : ∃ r, X / X.gcd Y = r := ⟨_, rfl⟩
 have fl : Fit l K := hl ▸ fY.le (Nat.div_le_self _ _)
 have fr : Fit r K := hr ▸ fX.le (Nat.div_le_self _ _)
 have hr0 : 0 < r := hr ▸ Nat.div_pos (Nat.le_of_dvd hX0 (Nat.gcd_dvd_left X Y)) hg0
 obtain ⟨S, hS⟩ : ∃ S : Int, x * l + y * r = S := ⟨_, rfl⟩
 have hlow := hlow0 S (by rw [hl, hr]; exact hS.symm)
 rw [hr] at hlow
 have g1 : Fit (x * l).natAbs (K + K) := by rw [Int.natAbs_mul, Int.natAbs_natCast]; exact fx.mul fl
 have g2 : Fit (y * r).natAbs (K + K) := by rw [Int.natAbs_mul, Int.natAbs_natCast]; exact fy.mul fr
 have fS : Fit S.natAbs (K + K + 1) := by rw [← hS]; exact (Fit.add g1 g2).le (Int.natAbs_add_le _ _)
 have hh0 : 0 < S.natAbs.gcd (X.gcd Y) := Nat.gcd_pos_of_pos_right _ hg0
 have fh : Fit (S.natAbs.gcd (X.gcd Y)) K := fg.le (Nat.gcd_le_right _ hg0)
 obtain ⟨h, hh⟩ : ∃ h, S.natAbs.gcd (X.gcd Y) = h := ⟨_, rfl⟩
 rw [hh] at hlow hh0 fh
 have hhg : h ∣ Y := hh ▸ Nat.dvd_trans (Nat.gcd_dvd_right _ _) (Nat.gcd_dvd_right _ _)
 have hres : ∀ (W : World) (m o : Value), IntAt W m (if decide (S < 0) = true then -((S.natAbs / h : Nat) : Int) else ((S.natAbs / h : Nat) : Int)) → MagAt W o (r * (Y / h)) → ∃ a n c b d e f, m = .agg #[.slice a n c, .bool b] ∧ o = .slice d e f ∧ RatV W (.agg #[.slice a n c, .bool b, .slice d e f]) (p + q) := by
  intro W m o hm ho
  have hsg : (if decide (S < 0) = true then -((S.natAbs / h : Nat) : Int) else ((S.natAbs / h : Nat) : Int)) = S.tdiv (h : Int) := by
   have := frac.sg_div S (h : Int)
   rw [decide_eq_false (by omega : ¬ (h : Int) < 0), Bool.bne_false, Int.natAbs_natCast] at this
   exact this
  rw [hsg] at hm
  have hza : (S.tdiv (h : Int)).natAbs = S.natAbs / h := by rw [Int.natAbs_tdiv, Int.natAbs_natCast]; rfl
  have hnd : r * (Y / h) ≠ 0 := Nat.ne_of_gt (Nat.mul_pos hr0 (Nat.div_pos (Nat.le_of_dvd hY0 hhg) hh0))
  have hq := rat_add (p := p) (q := q) (z := S.tdiv (h : Int)) (d := r * (Y / h)) hnd (by rw [hza]; exact hlow.1) (by
   rw [hxe, hye, hXe, hYe]; exact hlow.2)
  obtain ⟨a, n, c, b, rfl⟩ := frac.int_shape hm
  obtain ⟨m', hm1, hm2⟩ := hm
  obtain ⟨ao, bo, oo, co, no, O, rfl, Io, hO⟩ := ho
  refine ⟨a, n, c, b, ao, no, co, rfl, rfl, m', .slice ao no co, ?_, ?_, ?_⟩
  ·simp only [Value.agg.injEq, Array.mk.injEq, List.cons.injEq] at hm1
   rw [hq.1, ← hm1.1, ← hm1.2.1]
  ·rw [hq.1]; exact hm2
  ·rw [hq.2]; exact ⟨ao, bo, oo, co, no, O, rfl, Io, hO⟩
 have HRES := qH hres
 have hix : ∀ W a n c, MagAt W (.slice a n c) x.natAbs → IntAt W (.agg #[.slice a n c, .bool (decide (x < 0))]) x := fun W a n c h => ⟨_, rfl, h⟩
 have hiy : ∀ W a n c, MagAt W (.slice a n c) y.natAbs → IntAt W (.agg #[.slice a n c, .bool (decide (y < 0))]) y := fun W a n c h => ⟨_, rfl, h⟩
 generalize decide (x < 0) = b0 at *
 generalize decide (y < 0) = b1 at *
 have HX := qH (qA hx (qA hX (qA hy hY)))
 have HF := qH (qA fx (qA fX (qA fy fY)))
 have HF2 := qH (qA fl (qA fr (qA g1 (qA g2 (qA fS fh)))))
 have HP := qH (qA hX0 (qA hY0 (qA hg0 (qA hh0 fg))))
 have HE := qH (qA hl (qA hr (qA hS hh)))
 have HK := qH hK
 have HIX := qH hix
 have HIY := qH hiy
 obtain ⟨a0, _, _, c0, n0, _, rfl, _, _⟩ := hx
 obtain ⟨d0, _, _, f0, e0, _, rfl, _, _⟩ := hX
 obtain ⟨a1, _, _, c1, n1, _, rfl, _, _⟩ := hy
 obtain ⟨d1, _, _, f1, e1, _, rfl, _, _⟩ := hY
 clear hlow hlow0 hres hX0 hY0 hg0 hh0 fg fh fx fX fy fY hK hxe hye hXe hYe hl hr hS hh fl fr fS g1 g2 hr0 hhg hix hiy
 obtain ⟨W1, hW1⟩ : ∃ W1, W1 = ((w.alloc (.cells #[.slice a0 n0 c0, .bool b0, .slice d0 e0 f0] 138)).alloc (.cells #[.slice a1 n1 c1, .bool b1, .slice d1 e1 f1] 138)).alloc (.cells #[.slice none 0 0, .bool false, .slice none 0 0] 138) := ⟨_, rfl⟩
 have hb1 : Below w.heap.size w W1 := hW1 ▸ balloc (balloc (balloc qB qN) qN) qN
 have hr0 : W1.heap[w.heap.size]? = some (.cells #[.slice a0 n0 c0, .bool b0, .slice d0 e0 f0] 138 (0, 0)) := by rw [hW1, qL _ _ _ (by simp only [World.size_alloc]; omega), qL _ _ _ (by simp only [World.size_alloc]; omega)]; exact qM _ _ _ (by simp)
 have hr1 : W1.heap[w.heap.size + 1]? = some (.cells #[.slice a1 n1 c1, .bool b1, .slice d1 e1 f1] 138 (0, 0)) := by rw [hW1, qL _ _ _ (by simp only [World.size_alloc]; omega)]; exact qM _ _ _ (by simp)
 have hr2 : W1.heap[w.heap.size + 1 + 1]? = some (.cells #[.slice none 0 0, .bool false, .slice none 0 0] 138 (0, 0)) := by rw [hW1]; exact qM _ _ _ (by simp)
 have l2 : w.heap.size + 1 + 1 < W1.heap.size := (qG hr2).1
 have C00 : ∀ W, Below (w.heap.size + 1 + 1) W1 W → W.cell? ⟨w.heap.size, 0, none⟩ = some (.slice a0 n0 c0) := fun W h => (h.cell (p := ⟨w.heap.size, 0, none⟩) (by show w.heap.size < _; omega)).trans (cell_of_row _ _ 0 _ _ _ hr0)
 have C01 : ∀ W, Below (w.heap.size + 1 + 1) W1 W → W.cell? ⟨w.heap.size, 1, none⟩ = some (.bool b0) := fun W h => (h.cell (p := ⟨w.heap.size, 1, none⟩) (by show w.heap.size < _; omega)).trans (cell_of_row _ _ 1 _ _ _ hr0)
 have C02 : ∀ W, Below (w.heap.size + 1 + 1) W1 W → W.cell? ⟨w.heap.size, 2, none⟩ = some (.slice d0 e0 f0) := fun W h => (h.cell (p := ⟨w.heap.size, 2, none⟩) (by show w.heap.size < _; omega)).trans (cell_of_row _ _ 2 _ _ _ hr0)
 have C10 : ∀ W, Below (w.heap.size + 1 + 1) W1 W → W.cell? ⟨w.heap.size + 1, 0, none⟩ = some (.slice a1 n1 c1) := fun W h => (h.cell (p := ⟨w.heap.size + 1, 0, none⟩) (by show w.heap.size + 1 < _; omega)).trans (cell_of_row _ _ 0 _ _ _ hr1)
 have C11 : ∀ W, Below (w.heap.size + 1 + 1) W1 W → W.cell? ⟨w.heap.size + 1, 1, none⟩ = some (.bool b1) := fun W h => (h.cell (p := ⟨w.heap.size + 1, 1, none⟩) (by show w.heap.size + 1 < _; omega)).trans (cell_of_row _ _ 1 _ _ _ hr1)
 have C12 : ∀ W, Below (w.heap.size + 1 + 1) W1 W → W.cell? ⟨w.heap.size + 1, 2, none⟩ = some (.slice d1 e1 f1) := fun W h => (h.cell (p := ⟨w.heap.size + 1, 2, none⟩) (by show w.heap.size + 1 < _; omega)).trans (cell_of_row _ _ 2 _ _ _ hr1)
 have HR := qH (qA hb1 hr2)
 have Hl2 := qH l2
 clear hr0 hr1 hr2 hb1
 go_enter Tryz.func101, Tryz.ntmps101
 go_wp2_with fail
 rw [← hW1]
 clear hW1
 refine (frac.gcd_any X Y K (by have := HK.out; omega) _ _ W1 (HX.out.2.1.below HR.out.1) (HX.out.2.2.2.below HR.out.1) HF.out.2.1 HF.out.2.2.2).mono ?_
 rintro e w2 ⟨vg, rfl, hb, hv⟩
 have Mw2_g := qH hv
 have Hw2 : Hid (Below w.heap.size w w2 ∧ Below (w.heap.size + 1 + 1) W1 w2) := qH ⟨HR.out.1.trans (hb.mono HR.out.1.size), hb.mono (Nat.le_of_lt Hl2.out)⟩
 have Rw2 := qH ((hb.block _ (qG HR.out.2).1).trans HR.out.2)
 obtain ⟨sg, _, _, ug, tg, _, rfl, _, _⟩ := hv
 clear hb
 have k00 := C00 w2 Hw2.out.2
 have k01 := C01 w2 Hw2.out.2
 have k02 := C02 w2 Hw2.out.2
 have k10 := C10 w2 Hw2.out.2
 have k11 := C11 w2 Hw2.out.2
 have k12 := C12 w2 Hw2.out.2
 go_wp2_with fail
 refine (frac.divide_any Y (X.gcd Y) K (by have := HK.out; omega) _ _ w2 (HX.out.2.2.2.below Hw2.out.1) Mw2_g.out HF.out.2.2.2 HP.out.2.2.2.2 HP.out.2.2.1).mono ?_
 rintro e w3 ⟨vl, _, rfl, hb, hv, _⟩
 rw [HE.out.1] at hv
 have Mw3_g := qH (Mw2_g.out.below hb)
 have Mw3_l := qH hv
 have Hw3 : Hid (Below w.heap.size w w3 ∧ Below (w.heap.size + 1 + 1) W1 w3) := qH ⟨Hw2.out.1.trans (hb.mono Hw2.out.1.size), (Hw2.out.2).trans (hb.mono (Nat.le_trans (Nat.le_of_lt Hl2.out) (Hw2.out.2).size))⟩
 have Rw3 := qH ((hb.block _ (qG Rw2.out).1).trans Rw2.out)
 obtain ⟨sl, _, _, ul, tl, _, rfl, _, _⟩ := hv
 clear hb
 clear k00
 have k00 := C00 w3 Hw3.out.2
 clear k01
 have k01 := C01 w3 Hw3.out.2
 clear k02
 have k02 := C02 w3 Hw3.out.2
 clear k10
 have k10 := C10 w3 Hw3.out.2
 clear k11
 have k11 := C11 w3 Hw3.out.2
 clear k12
 have k12 := C12 w3 Hw3.out.2
 go_wp2_with fail
 refine (frac.divide_any X (X.gcd Y) K (by have := HK.out; omega) _ _ w3 (HX.out.2.1.below Hw3.out.1) Mw3_g.out HF.out.2.1 HP.out.2.2.2.2 HP.out.2.2.1).mono ?_
 rintro e w4 ⟨vr, _, rfl, hb, hv, _⟩
 rw [HE.out.2.1] at hv
 have Mw4_g := qH (Mw3_g.out.below hb)
 have Mw4_l := qH (Mw3_l.out.below hb)
 have Mw4_r := qH hv
 have Hw4 : Hid (Below w.heap.size w w4 ∧ Below (w.heap.size + 1 + 1) W1 w4) := qH ⟨Hw3.out.1.trans (hb.mono Hw3.out.1.size), (Hw3.out.2).trans (hb.mono (Nat.le_trans (Nat.le_of_lt Hl2.out) (Hw3.out.2).size))⟩
 have Rw4 := qH ((hb.block _ (qG Rw3.out).1).trans Rw3.out)
 obtain ⟨sr, _, _, ur, tr, _, rfl, _, _⟩ := hv
 clear hb
 clear k00
 have k00 := C00 w4 Hw4.out.2
 clear k01
 have k01 := C01 w4 Hw4.out.2
 clear k02
 have k02 := C02 w4 Hw4.out.2
 clear k10
 have k10 := C10 w4 Hw4.out.2
 clear k11
 have k11 := C11 w4 Hw4.out.2
 clear k12
 have k12 := C12 w4 Hw4.out.2
 have hst : Below w4.heap.size w4 w4 := Below.refl _ _
 have hstD : Below w4.heap.size w4 w4.drew := hst.drew
 have hdr : ∀ W : World, W.drew.heap.size = W.heap.size := fun _ => rfl
 have hs4 : w.heap.size + 1 + 1 < w4.heap.size := Nat.lt_of_lt_of_le Hl2.out Hw4.out.2.size
 have D00 : ∀ W, Below w4.heap.size w4 W → W.cell? ⟨w.heap.size, 0, none⟩ = some (.slice a0 n0 c0) := fun W h => C00 W (Hw4.out.2.trans (h.mono (Nat.le_of_lt hs4)))
 have D01 : ∀ W, Below w4.heap.size w4 W → W.cell? ⟨w.heap.size, 1, none⟩ = some (.bool b0) := fun W h => C01 W (Hw4.out.2.trans (h.mono (Nat.le_of_lt hs4)))
 have D10 : ∀ W, Below w4.heap.size w4 W → W.cell? ⟨w.heap.size + 1, 0, none⟩ = some (.slice a1 n1 c1) := fun W h => C10 W (Hw4.out.2.trans (h.mono (Nat.le_of_lt hs4)))
 have D11 : ∀ W, Below w4.heap.size w4 W → W.cell? ⟨w.heap.size + 1, 1, none⟩ = some (.bool b1) := fun W h => C11 W (Hw4.out.2.trans (h.mono (Nat.le_of_lt hs4)))
 have HC := qH (qA C00 (qA C01 (qA C02 (qA C10 (qA C11 C12)))))
 clear C00 C01 C02 C10 C11 C12 k00 k01 k02 k10 k11 k12
 go_upto_region 4 with fail
 go_cut [10] (fun x10 W => ∃ (g7 : Nat) (a7 : Option Addr) (n7 c7 : Nat) (b7 : Bool), x10 = .pointer (some ⟨g7, 0, none⟩) ∧ One w4 W g7 (a7, n7, c7, b7) S)
 case first =>
  go_region_held3 (fun W => Below w4.heap.size w4 W) (first | with_reducible exact hst | with_reducible exact hstD | with_reducible exact HB7 | with_reducible exact HB6 | with_reducible exact HB5 | ((repeat (first | refine Below.setCell ?_ (by first | exact Nat.le_refl _ | exact HB7.size | exact HB6.size | exact HB5.size | exact Nat.le_succ_of_le qN) _ | refine balloc ?_ qN | refine Below.drew ?_)); first | exact HB7 | exact HB6 | exact HB5 | exact hst)) (first | (go_at_call_of 136 (Value.slice sl tl ul); refine (frac.scaled_any x l K K (by have := HK.out; omega) _ _ _ (HIX.out _ _ _ _ (HX.out.1.below (Hw4.out.1.trans (Below.mono (by ((repeat (first | refine Below.setCell ?_ (by first | exact Nat.le_refl _ | exact HB7.size | exact HB6.size | exact HB5.size | exact Nat.le_succ_of_le qN) _ | refine balloc ?_ qN | refine Below.drew ?_)); first | exact hst)) Hw4.out.1.size)))) (Mw4_l.out.below (by ((repeat (first | refine Below.setCell ?_ (by first | exact Nat.le_refl _ | exact HB7.size | exact HB6.size | exact HB5.size | exact Nat.le_succ_of_le qN) _ | refine balloc ?_ qN | refine Below.drew ?_)); first | exact hst))) HF.out.1 HF2.out.1).mono ?_; rintro e w5 ⟨p5, rfl, hb5, hp5⟩; have HB5 : Below w4.heap.size w4 w5 := bjoin (by ((repeat (first | refine Below.setCell ?_ (by first | exact Nat.le_refl _ | exact HB7.size | exact HB6.size | exact HB5.size | exact Nat.le_succ_of_le qN) _ | refine balloc ?_ qN | refine Below.drew ?_)); first | exact hst)) hb5; obtain ⟨a5, n5, c5, b5, rfl⟩ := frac.int_shape hp5; obtain ⟨k5, k5f⟩ := bcell hb5; have Z5 := qH (zkeep hb5); have s5 : _ ≤ _ := hb5.size; (try simp only [World.size_alloc, hdr, World.size_setCell] at s5); have I5 := qH hp5; (try have q5 : w4.heap.size < w5.heap.size := by omega); clear hb5 hp5) | (go_at_call_of 136 (Value.slice sr tr ur); refine (frac.scaled_any y r K K (by have := HK.out; omega) _ _ _ (HIY.out _ _ _ _ (HX.out.2.2.1.below (Hw4.out.1.trans (Below.mono (by ((repeat (first | refine Below.setCell ?_ (by first | exact Nat.le_refl _ | exact HB7.size | exact HB6.size | exact HB5.size | exact Nat.le_succ_of_le qN) _ | refine balloc ?_ qN | refine Below.drew ?_)); first | exact HB5)) Hw4.out.1.size)))) (Mw4_r.out.below (by ((repeat (first | refine Below.setCell ?_ (by first | exact Nat.le_refl _ | exact HB7.size | exact HB6.size | exact HB5.size | exact Nat.le_succ_of_le qN) _ | refine balloc ?_ qN | refine Below.drew ?_)); first | exact HB5))) HF.out.2.2.1 HF2.out.2.1).mono ?_; rintro e w6 ⟨p6, rfl, hb6, hp6⟩; have HB6 : Below w4.heap.size w4 w6 := bjoin (by ((repeat (first | refine Below.setCell ?_ (by first | exact Nat.le_refl _ | exact HB7.size | exact HB6.size | exact HB5.size | exact Nat.le_succ_of_le qN) _ | refine balloc ?_ qN | refine Below.drew ?_)); first | exact HB5)) hb6; obtain ⟨a6, n6, c6, b6, rfl⟩ := frac.int_shape hp6; obtain ⟨k6, k6f⟩ := bcell hb6; have Z6 := qH (zkeep hb6); have s6 : _ ≤ _ := hb6.size; (try simp only [World.size_alloc, hdr, World.size_setCell] at s6); have J6 : Hid (IntAt w6 _ _) := qH (by first | exact I5.out.below hb6 | exact (I5.out.below (balloc qB qN)).below hb6); have I6 := qH hp6; (try have q6 : w4.heap.size < w6.heap.size := by omega); (try have r6 : w5.heap.size < w6.heap.size := by omega); clear hb6 hp6) | (go_at_call 137; refine (frac.sum_any (x * (l : Int)) (y * (r : Int)) (K + K) (by have := HK.out; omega) _ _ _ (by first | exact J6.out | exact J6.out.below (balloc qB qN)) (by first | exact I6.out | exact I6.out.below (balloc qB qN)) HF2.out.2.2.1 HF2.out.2.2.2.1).mono ?_; rintro e w7 ⟨p7, rfl, hb7, hp7⟩; rw [HE.out.2.2.1] at hp7; have HB7 : Below w4.heap.size w4 w7 := bjoin (by ((repeat (first | refine Below.setCell ?_ (by first | exact Nat.le_refl _ | exact HB7.size | exact HB6.size | exact HB5.size | exact Nat.le_succ_of_le qN) _ | refine balloc ?_ qN | refine Below.drew ?_)); first | exact HB6)) hb7; obtain ⟨a7, n7, c7, b7, rfl⟩ := frac.int_shape hp7; obtain ⟨k7, k7f⟩ := bcell hb7; have Z7 := qH (zkeep hb7); have s7 : _ ≤ _ := hb7.size; (try simp only [World.size_alloc, hdr, World.size_setCell] at s7); have I7 := qH hp7; (try have q7 : w4.heap.size < w7.heap.size := by omega); (try have r7 : w5.heap.size < w7.heap.size := by omega); (try have t7 : w6.heap.size < w7.heap.size := by omega); clear hb7 hp7))
  all_goals go_wp2_with fail
  all_goals go_meet
  all_goals refine ⟨_, a7, n7, c7, b7, rfl, ?_⟩
  all_goals first
   | with_reducible exact one_a I7.out HB7
   | (with_reducible refine one_p I7.out HB7 ?_ ?_; (first | exact Nat.le_refl _ | exact HB5.size | exact HB6.size | exact HB7.size); (refine Z7.out _ _ ?_; first | (refine qM _ _ _ ?_; ((try simp only [World.size_alloc, hdr]) <;> omega)) | (refine Z6.out _ _ ?_; first | (refine qM _ _ _ ?_; ((try simp only [World.size_alloc, hdr]) <;> omega)) | (refine Z5.out _ _ ?_; (try with_reducible refine zdrew ?_); (refine qM _ _ _ ?_; ((try simp only [World.size_alloc, hdr]) <;> omega))))))
 case rest =>
  obtain ⟨g7, a7, n7, c7, b7, rfl, h7, i7, hb7⟩ := hcut
  dsimp only at h7 i7
  obtain ⟨m7, hm7, hg7⟩ := i7
  have e7 : m7 = .slice a7 n7 c7 ∧ b7 = decide (S < 0) := by
   simp only [Value.agg.injEq, Array.mk.injEq, List.cons.injEq, Value.bool.injEq] at hm7
   exact ⟨hm7.1.symm, hm7.2.1⟩
  obtain ⟨rfl, hb7v⟩ := e7
  have HG7 := qH (qA hg7 (qA h7 (qA hb7 hb7v)))
  have HB := qH (qA (Hw4.out.1.trans (hb7.mono Hw4.out.1.size)) (qA (Hw4.out.2.trans (hb7.mono (Nat.le_of_lt hs4))) ((hb7.block _ (qG Rw4.out).1).trans Rw4.out)))
  have Mg := qH (Mw4_g.out.below hb7)
  have Mr := qH (Mw4_r.out.below hb7)
  have q0 := cell_of_row wc _ 0 _ _ _ h7
  clear hm7 hg7 h7 hb7 hb7v D00 D01 D10 D11
  go_wp2_with fail
  refine (frac.gcd_any S.natAbs (X.gcd Y) (K + K + 1) (by have := HK.out; omega) _ _ wc HG7.out.1 Mg.out HF2.out.2.2.2.2.1 (HP.out.2.2.2.2.mono (by omega))).mono ?_
  rintro e w8 ⟨vh, rfl, hb, hv⟩
  rw [HE.out.2.2.2] at hv
  have Mh8 := qH hv
  have MS8 := qH (HG7.out.1.below hb)
  have Mr8 := qH (Mr.out.below hb)
  have H8 := qH (qA (HB.out.1.trans (hb.mono HB.out.1.size)) (qA (HB.out.2.1.trans (hb.mono (Nat.le_trans (Nat.le_of_lt Hl2.out) HB.out.2.1.size))) (qA ((hb.block _ (qG HB.out.2.2).1).trans HB.out.2.2) ((hb.block _ (qG HG7.out.2.1).1).trans HG7.out.2.1))))
  have q0 := cell_of_row w8 _ 0 _ _ _ H8.out.2.2.2
  obtain ⟨sh, _, _, uh, th, _, rfl, _, _⟩ := hv
  clear hb
  go_wp2_with fail
  refine (frac.divide_any S.natAbs h (K + K + 1) (by have := HK.out; omega) _ _ w8 MS8.out Mh8.out HF2.out.2.2.2.2.1 (HF2.out.2.2.2.2.2.mono (by omega)) HP.out.2.2.2.1).mono ?_
  rintro e w9 ⟨vn, _, rfl, hb, hv, _⟩
  have Mh9 := qH (Mh8.out.below hb)
  have Mn9 := qH hv
  have Mr9 := qH (Mr8.out.below hb)
  have H9 := qH (qA (H8.out.1.trans (hb.mono H8.out.1.size)) (qA (H8.out.2.1.trans (hb.mono (Nat.le_trans (Nat.le_of_lt Hl2.out) H8.out.2.1.size))) (qA ((hb.block _ (qG H8.out.2.2.1).1).trans H8.out.2.2.1) ((hb.block _ (qG H8.out.2.2.2).1).trans H8.out.2.2.2))))
  have k12 := HC.out.2.2.2.2.2 w9 H9.out.2.1
  have q1 := cell_of_row w9 _ 1 _ _ _ H9.out.2.2.2
  obtain ⟨sn, _, _, un, tn, _, rfl, _, _⟩ := hv
  clear hb q0
  go_wp2_with fail
  refine (frac.divide_any Y h K (by have := HK.out; omega) _ _ w9 (HX.out.2.2.2.below H9.out.1) Mh9.out HF.out.2.2.2 HF2.out.2.2.2.2.2 HP.out.2.2.2.1).mono ?_
  rintro e w10 ⟨vt, _, rfl, hb, hv, _⟩
  have Mt10 := qH hv
  have Mn10 := qH (Mn9.out.below hb)
  have Mr10 := qH (Mr9.out.below hb)
  have H10 := qH (qA (H9.out.1.trans (hb.mono H9.out.1.size)) (qA ((hb.block _ (qG H9.out.2.2.1).1).trans H9.out.2.2.1) ((hb.block _ (qG H9.out.2.2.2).1).trans H9.out.2.2.2)))
  have q1 := cell_of_row w10 _ 1 _ _ _ H10.out.2.2
  obtain ⟨st, _, _, ut, tt, _, rfl, _, _⟩ := hv
  clear hb k12
  go_wp2_with fail
  refine (frac.signed_any (S.natAbs / h) b7 _ w10 Mn10.out).mono ?_
  rintro e w11 ⟨v11, rfl, hb, hv⟩
  rw [HG7.out.2.2.2] at hv
  have I11 := qH hv
  have Mt11 := qH (Mt10.out.below hb)
  have Mr11 := qH (Mr10.out.below hb)
  have H11 := qH (qA (H10.out.1.trans (hb.mono H10.out.1.size)) ((hb.block _ (qG H10.out.2.1).1).trans H10.out.2.1))
  obtain ⟨a9, n9, c9, b9, rfl⟩ := frac.int_shape hv
  clear hb hv q1
  go_wp2_with fail
  refine (frac.times_any r (Y / h) K K (by have := HK.out; omega) _ _ w11 Mr11.out Mt11.out HF2.out.2.1 (HF.out.2.2.2.le (Nat.div_le_self _ _))).mono ?_
  rintro e w12 ⟨v12, rfl, hb, hv⟩
  obtain ⟨a8, n8, c8, b8, d8, e8, f8, hm8, ho8, hv8⟩ := HRES.out w12 _ _ (I11.out.below hb) hv
  have hm8' : a8 = a9 ∧ n8 = n9 ∧ c8 = c9 ∧ b8 = b9 := by
   simp only [Value.agg.injEq, Array.mk.injEq, List.cons.injEq, Value.slice.injEq, Value.bool.injEq] at hm8
   exact ⟨hm8.1.1.symm, hm8.1.2.1.symm, hm8.1.2.2.symm, hm8.2.1.symm⟩
  obtain ⟨rfl, rfl, rfl, rfl⟩ := hm8'
  subst ho8
  have H12 := qH (qA ((hb.block _ (qG H11.out.2).1).trans H11.out.2) (qA (H11.out.1.trans (hb.mono H11.out.1.size)) hv8))
  clear hb hv hm8 hv8
  go_wp2_with ((with_reducible refine wpList_store_row rfl 138 _ _ rfl (w.heap.size + 1 + 1) #[.slice a8 n8 c8, .bool b8, .slice d8 e8 f8] ?_ ?_ 138 _ H12.out.1 3 ?_ ?_ ?_ ?_ ?_); (next => rfl); (next => rfl); (next => kernel_rfl); (next => rfl); (next => rfl); (next => rfl))
  exact bodyPost_ret (v := .agg #[.slice a8 n8 c8, .bool b8, .slice d8 e8 f8]) (results_row rfl _ _ (w.heap.size + 1 + 1) 138 _ _ rfl (setRow_heap _ _ _ _ _ _ H12.out.1) Tryz.underlying138 rfl 3 (by kernel_rfl) rfl) rfl ⟨_, rfl, below_setRow H12.out.2.1 (by omega) _, rat_setRow H12.out.2.2 H12.out.1⟩
end Go.Proofs.YtfminfgabiipjaaGreatDoor
end
section
namespace Go.Proofs.YtfminfgabiipjaaGreatDoor
open Go.RowKit
def fval (n d : List UInt8) : Rat := mkRat (ival n) (ival d).natAbs
theorem FOk.val {n d : List UInt8} (h : FOk n d) : (fval n d).num = ival n ∧ (fval n d).den = (ival d).natAbs := by
 have h0 : (ival d).natAbs ≠ 0 := by have := h.pos; omega
 exact rat_mk h0 h.cop h0 rfl rfl
theorem FOk.fit {n d : List UInt8} (h : FOk n d) : RFit (fval n d) 67 := by
 unfold RFit
 rw [h.val.1, h.val.2]; exact ⟨h.vn.fit, h.vd.fit⟩
theorem FOk.at {n d : List UInt8} (h : FOk n d) {W : World} {v : Value} (hv : RatAt W v (ival n) (ival d).natAbs) : RatV W v (fval n d) := by
 unfold RatV; rw [h.val.1, h.val.2]; exact hv
theorem fread_shape {W : World} {v : Value} {ok : Bool} {n d : List UInt8} (h : ok = true ∧ FOk n d ∧ RatAt W v (ival n) (ival d).natAbs ∨ ok = false ∧ ¬ FOk n d ∧ v = .agg #[.slice none 0 0, .bool false, .slice none 0 0]) : ∃ (a : Option Addr) (x c : Nat) (b : Bool) (d' : Option Addr) (e f : Nat), v = .agg #[.slice a x c, .bool b, .slice d' e f] := by
 rcases h with ⟨_, _, h⟩ | ⟨_, _, h⟩
 ·exact rat_shape h
 ·exact ⟨_, _, _, _, _, _, _, h⟩
set_option maxRecDepth 100000 in
set_option maxHeartbeats 1000000 in
theorem fcheck_any (n d : ByteArray) (w : World) :
  Calls Tryz.prog 47 #[.agg #[.string n, .string d]] w fun e w' => ChecksAs w (FOk n.data.toList d.data.toList) 20 e w' := by
 have HR := qH (fun W => fread_any n d W)
 have HA : Hid (∀ cs, Below w.heap.size w (w.alloc (.cells cs 46))) := qH fun cs => qB.alloc qN _
 go_enter Tryz.func47, Tryz.ntmps47
 go_wp2_with fail
 refine (HR.out _).mono ?_
 rintro e w1 ⟨v, ok, rfl, hok, hb⟩
 obtain ⟨a, x, c, b, d', e', f', rfl⟩ := fread_shape hok
 have hb0 : Below w.heap.size w w1 := (HA.out _).trans (hb.mono (HA.out _).size)
 have HB := qH (balloc (o := .cells #[.slice a x c, .bool b, .slice d' e' f'] 138) hb0 qN)
 clear hb hb0
 rcases hok with ⟨rfl, hf, _⟩ | ⟨rfl, hf, _⟩
 ·have HF := qH hf
  clear hf
  go_wp2_with fail
  go_ret
  exact ⟨0, rfl, Or.inl ⟨rfl, HF.out⟩, HB.out⟩
 ·have HF := qH hf
  clear hf
  go_wp2_with fail
  go_ret
  exact ⟨20, rfl, Or.inr ⟨rfl, HF.out⟩, HB.out⟩
def Short (q : Rat) : Prop := (num q.num.natAbs).size ≤ 600 ∧ (num q.den).size ≤ 600
def fstr (q : Rat) : Value := .agg #[.string (frac.wtxt q.num), .string (num q.den)]
def FWrites (w : World) (q : Rat) (e : Ending) (w' : World) : Prop := (Short q ∧ e = .returned (.tuple #[fstr q, .int .i64 0]) ∨ ¬ Short q ∧ e = .returned (.tuple #[.agg #[.string ⟨#[]⟩, .string ⟨#[]⟩], .int .i64 6])) ∧ Below w.heap.size w w'
set_option maxRecDepth 100000 in
set_option maxHeartbeats 2000000 in
theorem rwrite_any (q : Rat) (K : Nat) (hK0 : 0 < K) (hK : K ≤ 34359738368) (v : Value) (w : World) (hv : RatV w v q) (hq : RFit q K) (hT : HasT w) :
  Calls Tryz.prog 146 #[v] w fun e w' => FWrites w q e w' := by
 obtain ⟨m, o, rfl, hm, ho⟩ := hv
 have hi : ∀ W, Below w.heap.size w W → IntAt W (.agg #[m, .bool (decide (q.num < 0))]) q.num := fun W h => ⟨m, rfl, hm.below h⟩
 have l1 := qH (fun (W : World) (h : Below w.heap.size w W) => frac.length_any q.num.natAbs K (by omega) m W (hm.below h) hq.1 (hT.below h))
 have l2 := qH (fun (W : World) (h : Below w.heap.size w W) => frac.length_any q.den K (by omega) o W (ho.below h) hq.2 (hT.below h))
 have t1 := qH (fun (W : World) (h : Below w.heap.size w W) => frac.text_any q.num K hK0 (by omega) _ W (hi W h) hq.1 (hT.below h))
 have t2 := qH (fun (W : World) (h : Below w.heap.size w W) => frac.digits_any q.den K (by omega) o W (ho.below h) hq.2 (hT.below h))
 generalize decide (q.num < 0) = b0 at *
 obtain ⟨a0, _, _, c0, n0, _, rfl, _, _⟩ := hm
 obtain ⟨d0, _, _, f0, e0, _, rfl, _, _⟩ := ho
 clear hi hT hq hK
 obtain ⟨L1, hL1⟩ : ∃ L, (num q.num.natAbs).size = L := ⟨_, rfl⟩
 obtain ⟨L2, hL2⟩ : ∃ L, (num q.den).size = L := ⟨_, rfl⟩
 have hsh : Short q ↔ L1 ≤ 600 ∧ L2 ≤ 600 := by unfold Short; rw [hL1, hL2]
 rw [hL1] at l1
 rw [hL2] at l2
 have HSh := qH hsh
 obtain ⟨W1, hW1⟩ : ∃ W1, W1 = (w.alloc (.cells #[.slice a0 n0 c0, .bool b0, .slice d0 e0 f0] 138)).alloc (.cells #[.string ⟨#[]⟩, .string ⟨#[]⟩] 46) := ⟨_, rfl⟩
 have hb1 : Below w.heap.size w W1 := hW1 ▸ balloc (balloc qB qN) qN
 have hr0 : W1.heap[w.heap.size]? = some (.cells #[.slice a0 n0 c0, .bool b0, .slice d0 e0 f0] 138 (0, 0)) := by rw [hW1, qL _ _ _ (by simp only [World.size_alloc]; omega)]; exact qM _ _ _ rfl
 have hr1 : W1.heap[w.heap.size + 1]? = some (.cells #[.string ⟨#[]⟩, .string ⟨#[]⟩] 46 (0, 0)) := by rw [hW1]; exact qM _ _ _ (by simp)
 have HR := qH (qA hb1 (qA hr0 hr1))
 clear hsh hL1 hL2 hb1 hr0 hr1
 go_enter Tryz.func146, Tryz.ntmps146
 go_wp2_with fail
 rw [← hW1]
 clear hW1
 refine (l1.out W1 HR.out.1).mono ?_
 rintro e w2 ⟨rfl, hb2⟩
 have H2 := qH (qA (HR.out.1.trans (hb2.mono HR.out.1.size)) (qA ((hb2.block _ (qG HR.out.2.1).1).trans HR.out.2.1) ((hb2.block _ (qG HR.out.2.2).1).trans HR.out.2.2)))
 clear hb2
 by_cases h1 : (600 : Int) < L1
 ·have HN : Hid (¬ Short q) := qH (fun h => by have := HSh.out.1 h; omega)
  go_wp2_with ((with_reducible refine wpList_store_row rfl 46 _ _ rfl (w.heap.size + 1) #[.string ⟨#[]⟩, .string ⟨#[]⟩] ?_ ?_ 46 _ H2.out.2.2 2 ?_ ?_ ?_ ?_ ?_); (next => rfl); (next => rfl); (next => kernel_rfl); (next => rfl); (next => rfl); (next => rfl))
  exact bodyPost_ret (v := .tuple #[.agg #[.string ⟨#[]⟩, .string ⟨#[]⟩], .int .i64 6]) (results_row2 rfl _ _ (w.heap.size + 1) 46 _ _ rfl (setRow_heap _ _ _ _ _ _ H2.out.2.2) Tryz.underlying46 rfl 2 (by kernel_rfl) rfl _ rfl) rfl ⟨Or.inr ⟨HN.out, rfl⟩, below_setRow H2.out.1 (by omega) _⟩
 ·have k2 := cell_of_row w2 _ 2 _ _ _ H2.out.2.1
  go_wp2_with fail
  refine (l2.out w2 H2.out.1).mono ?_
  rintro e w3 ⟨rfl, hb3⟩
  have H3 := qH (qA (H2.out.1.trans (hb3.mono H2.out.1.size)) (qA ((hb3.block _ (qG H2.out.2.1).1).trans H2.out.2.1) ((hb3.block _ (qG H2.out.2.2).1).trans H2.out.2.2)))
  clear hb3 k2
  by_cases h2 : (600 : Int) < L2
  ·have HN : Hid (¬ Short q) := qH (fun h => by have := HSh.out.1 h; omega)
   go_wp2_with ((with_reducible refine wpList_store_row rfl 46 _ _ rfl (w.heap.size + 1) #[.string ⟨#[]⟩, .string ⟨#[]⟩] ?_ ?_ 46 _ H3.out.2.2 2 ?_ ?_ ?_ ?_ ?_); (next => rfl); (next => rfl); (next => kernel_rfl); (next => rfl); (next => rfl); (next => rfl))
   exact bodyPost_ret (v := .tuple #[.agg #[.string ⟨#[]⟩, .string ⟨#[]⟩], .int .i64 6]) (results_row2 rfl _ _ (w.heap.size + 1) 46 _ _ rfl (setRow_heap _ _ _ _ _ _ H3.out.2.2) Tryz.underlying46 rfl 2 (by kernel_rfl) rfl _ rfl) rfl ⟨Or.inr ⟨HN.out, rfl⟩, below_setRow H3.out.1 (by omega) _⟩
  ·have HY : Hid (Short q) := qH (HSh.out.2 (by omega))
   have hs3 : w.heap.size + 1 < w3.heap.size := (qG H3.out.2.2).1
   have C0 : ∀ W, Below (w.heap.size + 1) w3 W → W.cell? ⟨w.heap.size, 0, none⟩ = some (.slice a0 n0 c0) := fun W h => (h.cell (p := ⟨w.heap.size, 0, none⟩) (by show w.heap.size < _; omega)).trans (cell_of_row _ _ 0 _ _ _ H3.out.2.1)
   have C1 : ∀ W, Below (w.heap.size + 1) w3 W → W.cell? ⟨w.heap.size, 1, none⟩ = some (.bool b0) := fun W h => (h.cell (p := ⟨w.heap.size, 1, none⟩) (by show w.heap.size < _; omega)).trans (cell_of_row _ _ 1 _ _ _ H3.out.2.1)
   have C2 : ∀ W, Below (w.heap.size + 1) w3 W → W.cell? ⟨w.heap.size, 2, none⟩ = some (.slice d0 e0 f0) := fun W h => (h.cell (p := ⟨w.heap.size, 2, none⟩) (by show w.heap.size < _; omega)).trans (cell_of_row _ _ 2 _ _ _ H3.out.2.1)
   have hst : Below (w.heap.size + 1) w3 w3 := Below.refl _ _
   have hstD : Below (w.heap.size + 1) w3 w3.drew := hst.drew
   have Hs3 := qH hs3
   obtain ⟨T1, hT1⟩ : ∃ T, frac.wtxt q.num = T := ⟨_, rfl⟩
   obtain ⟨T2, hT2⟩ : ∃ T, num q.den = T := ⟨_, rfl⟩
   rw [hT1] at t1
   rw [hT2] at t2
   have HTT := qH (qA hT1 hT2)
   clear hs3 hT1 hT2
   go_wp2_with fail
   go_region_held3 (fun W => Below (w.heap.size + 1) w3 W) (first | with_reducible exact hst | with_reducible exact hstD | with_reducible exact HB5 | with_reducible exact HB4 | ((iterate 2 refine Below.setCell ?_ (by exact Nat.le_refl _) _); exact HB5)) (first | (go_at_call 179; refine (t1.out _ (H3.out.1.trans (hstD.mono (by omega)))).mono ?_; rintro e w4 ⟨rfl, hb4⟩; have HB4 : Below (w.heap.size + 1) w3 w4 := hstD.trans (hb4.mono (Nat.le_of_lt Hs3.out)); have R4 := qH ((hb4.block _ Hs3.out).trans H3.out.2.2); clear hb4) | (go_at_call 180; refine (t2.out _ (H3.out.1.trans (HB4.mono (by omega)))).mono ?_; rintro e w5 ⟨rfl, hb5⟩; have HB5 : Below (w.heap.size + 1) w3 w5 := HB4.trans (hb5.mono (Nat.le_trans (Nat.le_of_lt Hs3.out) HB4.size)); have hr5 := (hb5.block _ (qG R4.out).1).trans R4.out; have e0 := cell_of_row w5 _ 0 _ _ _ hr5; have e1 := cell_of_row w5 _ 1 _ _ _ hr5; have f0 := frozen_of_row w5 _ 0 _ _ hr5; have f1 := frozen_of_row w5 _ 1 _ _ hr5; have R5 := qH hr5; clear hb5 hr5))
   go_wp2_with fail
   refine bodyPost_ret (v := .tuple #[.agg #[.string T1, .string T2], .int .i64 0]) (results_row2 rfl _ _ (w.heap.size + 1) 46 #[.string T1, .string T2] _ rfl (heap_setCell_same _ _ 1 _ 46 _ (heap_setCell_same _ _ 0 _ 46 _ R5.out)) Tryz.underlying46 rfl 2 (by kernel_rfl) rfl _ rfl) rfl ⟨Or.inl ⟨HY.out, ?_⟩, H3.out.1.trans (((HB5.setCell (by exact Nat.le_refl _) _).setCell (by exact Nat.le_refl _) _).mono (by omega))⟩
   unfold fstr
   rw [show frac.wtxt q.num = T1 from HTT.out.1, HTT.out.2]
end Go.Proofs.YtfminfgabiipjaaGreatDoor
end
section
namespace Go.Proofs.YtfminfgabiipjaaGreatDoor
open Go.RowKit
def FCmps (w : World) (n d m c : List UInt8) (e : Ending) (w' : World) : Prop :=
 ((FOk n d ∧ FOk m c) ∧ e = .returned (.tuple #[.int .i64 (cmp3 ((fval n d).num * ((fval m c).den : Int) + -((fval m c).num * ((fval n d).den : Int))) 0), .int .i64 0]) ∨
  ¬ (FOk n d ∧ FOk m c) ∧ e = .returned (.tuple #[.int .i64 0, .int .i64 20])) ∧ Below w.heap.size w w'
def FApplies (w : World) (op : Rat → Rat → Rat) (n d m c : List UInt8) (e : Ending) (w' : World) : Prop :=
 (∃ v er, e = .returned (.tuple #[v, .int .i64 er]) ∧ ((FOk n d ∧ FOk m c) ∧ er = 0 ∧ RatV w' v (op (fval n d) (fval m c)) ∨ ¬ (FOk n d ∧ FOk m c) ∧ er = 20 ∧ v = .agg #[.slice none 0 0, .bool false, .slice none 0 0])) ∧ Below w.heap.size w w'
def FDoes (w : World) (op : Rat → Rat → Rat) (n d m c : List UInt8) (e : Ending) (w' : World) : Prop :=
 ((FOk n d ∧ FOk m c) ∧ (Short (op (fval n d) (fval m c)) ∧ e = .returned (.tuple #[fstr (op (fval n d) (fval m c)), .int .i64 0]) ∨ ¬ Short (op (fval n d) (fval m c)) ∧ e = .returned (.tuple #[.agg #[.string ⟨#[]⟩, .string ⟨#[]⟩], .int .i64 6])) ∨
  ¬ (FOk n d ∧ FOk m c) ∧ e = .returned (.tuple #[.agg #[.string ⟨#[]⟩, .string ⟨#[]⟩], .int .i64 20])) ∧ Below w.heap.size w w'
end Go.Proofs.YtfminfgabiipjaaGreatDoor
end
section
namespace Go.Proofs.YtfminfgabiipjaaGreatDoor
open Go.RowKit
set_option maxRecDepth 100000 in
set_option maxHeartbeats 2000000 in
theorem fapply_add (n d m c : ByteArray) (w : World) :
  Calls Tryz.prog 100 #[.agg #[.string n, .string d], .agg #[.string m, .string c], .func (.func 101) #[] #[]] w fun e w' => FApplies w (· + ·) n.data.toList d.data.toList m.data.toList c.data.toList e w' := by
 obtain ⟨W1, hW1⟩ : ∃ W1, W1 = ((w.alloc (.cells #[.string n, .string d] 46)).alloc (.cells #[.string m, .string c] 46)).alloc (.cells #[.slice none 0 0, .bool false, .slice none 0 0] 138) := ⟨_, rfl⟩
 have hb1 : Below w.heap.size w W1 := hW1 ▸ balloc (balloc (balloc qB qN) qN) qN
 have hr0 : W1.heap[w.heap.size]? = some (.cells #[.string n, .string d] 46 (0, 0)) := by rw [hW1, qL _ _ _ (by simp only [World.size_alloc]; omega), qL _ _ _ (by simp only [World.size_alloc]; omega)]; exact qM _ _ _ rfl
 have hr1 : W1.heap[w.heap.size + 1]? = some (.cells #[.string m, .string c] 46 (0, 0)) := by rw [hW1, qL _ _ _ (by simp only [World.size_alloc]; omega)]; exact qM _ _ _ (by simp)
 have hr2 : W1.heap[w.heap.size + 1 + 1]? = some (.cells #[.slice none 0 0, .bool false, .slice none 0 0] 138 (0, 0)) := by rw [hW1]; exact qM _ _ _ (by simp)
 have HR := qH (qA hb1 (qA hr0 (qA hr1 hr2)))
 clear hb1 hr0 hr1 hr2
 go_enter Tryz.func100, Tryz.ntmps100
 go_wp2_with fail
 rw [← hW1]
 clear hW1
 refine (fread_any n d W1).mono ?_
 rintro e w1 ⟨v1, ok1, rfl, hok1, hb1⟩
 obtain ⟨a0, n0, c0, b0, d0, e0, f0, rfl⟩ := fread_shape hok1
 have HO1 := qH hok1
 have k1 := cell_of_row w1 _ 0 _ _ _ ((hb1.block _ (qG HR.out.2.2.1).1).trans HR.out.2.2.1)
 have k2 := cell_of_row w1 _ 1 _ _ _ ((hb1.block _ (qG HR.out.2.2.1).1).trans HR.out.2.2.1)
 have q1 : w.heap.size + 1 < w1.heap.size := Nat.lt_of_lt_of_le (qG HR.out.2.2.1).1 hb1.size
 have HB1 := qH hb1
 clear hb1 hok1
 go_wp2_with fail
 obtain ⟨V1, hV1⟩ : ∃ V1, V1 = w1.alloc (.cells #[.slice a0 n0 c0, .bool b0, .slice d0 e0 f0] 138) := ⟨_, rfl⟩
 rw [← hV1]
 have hv1 : V1.heap[w1.heap.size]? = some (.cells #[.slice a0 n0 c0, .bool b0, .slice d0 e0 f0] 138 (0, 0)) := by rw [hV1]; exact qM _ _ _ rfl
 have hbv1 : Below w1.heap.size w1 V1 := hV1 ▸ balloc qB qN
 clear hV1 k1 k2
 refine (fread_any m c V1).mono ?_
 rintro e w2 ⟨v2, ok2, rfl, hok2, hb2⟩
 obtain ⟨a1, n1, c1, b1, d1, e1, f1, rfl⟩ := fread_shape hok2
 have HO2 := qH hok2
 have hr8 := (hb2.block _ (qG hv1).1).trans hv1
 have hb12 : Below w1.heap.size w1 w2 := hbv1.trans (hb2.mono hbv1.size)
 have HB2 := qH hb12
 have hbw : Below w.heap.size w w2 := HR.out.1.trans ((HB1.out.trans (hb12.mono HB1.out.size)).mono HR.out.1.size)
 obtain ⟨V2, hV2⟩ : ∃ V2, V2 = w2.alloc (.cells #[.slice a1 n1 c1, .bool b1, .slice d1 e1 f1] 138) := ⟨_, rfl⟩
 have hbv2 : Below w2.heap.size w2 V2 := hV2 ▸ balloc qB qN
 have r8 := (hbv2.block _ (qG hr8).1).trans hr8
 have r9 : V2.heap[w2.heap.size]? = some (.cells #[.slice a1 n1 c1, .bool b1, .slice d1 e1 f1] 138 (0, 0)) := by rw [hV2]; exact qM _ _ _ rfl
 have HV2 := qH (qA r8 (qA r9 (qA (hbw.trans (hbv2.mono hbw.size)) hbv2)))
 have x0 := cell_of_row w2 _ 0 _ _ _ hr8
 have x1 := cell_of_row w2 _ 1 _ _ _ hr8
 have x2 := cell_of_row w2 _ 2 _ _ _ hr8
 have lt8 := (qG hr8).1
 have HVe := qH hV2
 clear hv1 hbv1 hb2 hok2 hr8 hb12 hbw hbv2 r8 r9 hV2
 have HO := qH (fun (h1 : FOk n.data.toList d.data.toList) (h2 : FOk m.data.toList c.data.toList) (hv : RatV V2 (.agg #[.slice a0 n0 c0, .bool b0, .slice d0 e0 f0]) (fval n.data.toList d.data.toList)) (hu : RatV V2 (.agg #[.slice a1 n1 c1, .bool b1, .slice d1 e1 f1]) (fval m.data.toList c.data.toList)) => radd_any _ _ 67 (by decide) _ _ V2 hv hu h1.fit h2.fit)
 have HRZ : Hid (V2.heap[w.heap.size + 1 + 1]? = some (.cells #[.slice none 0 0, .bool false, .slice none 0 0] 138 (0, 0))) := qH (by
  have h1 := (HB1.out.block _ (qG HR.out.2.2.2).1).trans HR.out.2.2.2
  have h2 := (HB2.out.block _ (qG h1).1).trans h1
  exact (HV2.out.2.2.2.block _ (qG h2).1).trans h2)
 rcases HO1.out with ⟨rfl, hf1, hv1⟩ | ⟨rfl, hf1, _⟩
 ·rcases HO2.out with ⟨rfl, hf2, hv2⟩ | ⟨rfl, hf2, _⟩
  ·have hc := HO.out hf1 hf2 ((hf1.at hv1).below (HB2.out.trans (HV2.out.2.2.2.mono HB2.out.size))) ((hf2.at hv2).below HV2.out.2.2.2)
   have HC := qH (qA hc (qA hf1 hf2))
   clear hf1 hf2 hv1 hv2 hc
   go_wp2_with fail
   rw [← HVe.out]
   refine HC.out.1.mono ?_
   rintro e w9 ⟨v9, rfl, hb9, hv9⟩
   obtain ⟨a7, n7, c7, b7, d7, e7, f7, rfl⟩ := rat_shape hv9
   have hr9 := (hb9.block _ (qG HRZ.out).1).trans HRZ.out
   have H9 := qH (qA hr9 (qA (HV2.out.2.2.1.trans (hb9.mono HV2.out.2.2.1.size)) (rat_setRow (cs' := #[.slice a7 n7 c7, .bool b7, .slice d7 e7 f7]) hv9 hr9)))
   clear hb9 hv9 hr9
   go_wp2_with ((with_reducible refine wpList_store_row rfl 138 _ _ rfl (w.heap.size + 1 + 1) #[.slice a7 n7 c7, .bool b7, .slice d7 e7 f7] ?_ ?_ 138 _ H9.out.1 3 ?_ ?_ ?_ ?_ ?_); (next => rfl); (next => rfl); (next => kernel_rfl); (next => rfl); (next => rfl); (next => rfl))
   exact bodyPost_ret (v := .tuple #[.agg #[.slice a7 n7 c7, .bool b7, .slice d7 e7 f7], .int .i64 0]) (results_row2 rfl _ _ (w.heap.size + 1 + 1) 138 #[.slice a7 n7 c7, .bool b7, .slice d7 e7 f7] _ rfl (setRow_heap _ _ _ _ _ _ H9.out.1) Tryz.underlying138 rfl 3 (by kernel_rfl) rfl _ rfl) rfl ⟨⟨_, _, rfl, Or.inl ⟨HC.out.2, rfl, H9.out.2.2⟩⟩, below_setRow H9.out.2.1 (by omega) _⟩
  ·have HN := qH (show ¬ (FOk n.data.toList d.data.toList ∧ FOk m.data.toList c.data.toList) from fun h => hf2 h.2)
   clear hf1 hf2 hv1
   have hrz : ((w2.alloc (.cells #[.slice a1 n1 c1, .bool b1, .slice d1 e1 f1] 138)).alloc (.cells #[.slice none 0 0, .bool false, .slice none 0 0] 138)).heap[w.heap.size + 1 + 1]? = some (.cells #[.slice none 0 0, .bool false, .slice none 0 0] 138 (0, 0)) := by
    rw [← HVe.out]; exact (qL _ _ _ (qG HRZ.out).1).trans HRZ.out
   have HRZ2 := qH hrz
   have HBZ := qH (show Below w.heap.size w ((w2.alloc (.cells #[.slice a1 n1 c1, .bool b1, .slice d1 e1 f1] 138)).alloc (.cells #[.slice none 0 0, .bool false, .slice none 0 0] 138)) from HVe.out ▸ (HV2.out.2.2.1.alloc HV2.out.2.2.1.size _))
   clear hrz
   go_wp2_with ((with_reducible refine wpList_store_row rfl 138 _ _ rfl (w.heap.size + 1 + 1) #[.slice none 0 0, .bool false, .slice none 0 0] ?_ ?_ 138 _ HRZ2.out 3 ?_ ?_ ?_ ?_ ?_); (next => rfl); (next => rfl); (next => kernel_rfl); (next => rfl); (next => rfl); (next => rfl))
   exact bodyPost_ret (v := .tuple #[.agg #[.slice none 0 0, .bool false, .slice none 0 0], .int .i64 20]) (results_row2 rfl _ _ (w.heap.size + 1 + 1) 138 #[.slice none 0 0, .bool false, .slice none 0 0] _ rfl (setRow_heap _ _ _ _ _ _ HRZ2.out) Tryz.underlying138 rfl 3 (by kernel_rfl) rfl _ rfl) rfl ⟨⟨_, _, rfl, Or.inr ⟨HN.out, rfl, rfl⟩⟩, below_setRow HBZ.out (by omega) _⟩
 ·have HN := qH (show ¬ (FOk n.data.toList d.data.toList ∧ FOk m.data.toList c.data.toList) from fun h => hf1 h.1)
  clear hf1
  have hrz : ((w2.alloc (.cells #[.slice a1 n1 c1, .bool b1, .slice d1 e1 f1] 138)).alloc (.cells #[.slice none 0 0, .bool false, .slice none 0 0] 138)).heap[w.heap.size + 1 + 1]? = some (.cells #[.slice none 0 0, .bool false, .slice none 0 0] 138 (0, 0)) := by
   rw [← HVe.out]; exact (qL _ _ _ (qG HRZ.out).1).trans HRZ.out
  have HRZ2 := qH hrz
  have HBZ := qH (show Below w.heap.size w ((w2.alloc (.cells #[.slice a1 n1 c1, .bool b1, .slice d1 e1 f1] 138)).alloc (.cells #[.slice none 0 0, .bool false, .slice none 0 0] 138)) from HVe.out ▸ (HV2.out.2.2.1.alloc HV2.out.2.2.1.size _))
  clear hrz
  go_wp2_with ((with_reducible refine wpList_store_row rfl 138 _ _ rfl (w.heap.size + 1 + 1) #[.slice none 0 0, .bool false, .slice none 0 0] ?_ ?_ 138 _ HRZ2.out 3 ?_ ?_ ?_ ?_ ?_); (next => rfl); (next => rfl); (next => kernel_rfl); (next => rfl); (next => rfl); (next => rfl))
  exact bodyPost_ret (v := .tuple #[.agg #[.slice none 0 0, .bool false, .slice none 0 0], .int .i64 20]) (results_row2 rfl _ _ (w.heap.size + 1 + 1) 138 #[.slice none 0 0, .bool false, .slice none 0 0] _ rfl (setRow_heap _ _ _ _ _ _ HRZ2.out) Tryz.underlying138 rfl 3 (by kernel_rfl) rfl _ rfl) rfl ⟨⟨_, _, rfl, Or.inr ⟨HN.out, rfl, rfl⟩⟩, below_setRow HBZ.out (by omega) _⟩
set_option maxRecDepth 100000 in
set_option maxHeartbeats 2000000 in
theorem fapply_mul (n d m c : ByteArray) (w : World) :
  Calls Tryz.prog 100 #[.agg #[.string n, .string d], .agg #[.string m, .string c], .func (.func 102) #[] #[]] w fun e w' => FApplies w (· * ·) n.data.toList d.data.toList m.data.toList c.data.toList e w' := by
 obtain ⟨W1, hW1⟩ : ∃ W1, W1 = ((w.alloc (.cells #[.string n, .string d] 46)).alloc (.cells #[.string m, .string c] 46)).alloc (.cells #[.slice none 0 0, .bool false, .slice none 0 0] 138) := ⟨_, rfl⟩
 have hb1 : Below w.heap.size w W1 := hW1 ▸ balloc (balloc (balloc qB qN) qN) qN
 have hr0 : W1.heap[w.heap.size]? = some (.cells #[.string n, .string d] 46 (0, 0)) := by rw [hW1, qL _ _ _ (by simp only [World.size_alloc]; omega), qL _ _ _ (by simp only [World.size_alloc]; omega)]; exact qM _ _ _ rfl
 have hr1 : W1.heap[w.heap.size + 1]? = some (.cells #[.string m, .string c] 46 (0, 0)) := by rw [hW1, qL _ _ _ (by simp only [World.size_alloc]; omega)]; exact qM _ _ _ (by simp)
 have hr2 : W1.heap[w.heap.size + 1 + 1]? = some (.cells #[.slice none 0 0, .bool false, .slice none 0 0] 138 (0, 0)) := by rw [hW1]; exact qM _ _ _ (by simp)
 have HR := qH (qA hb1 (qA hr0 (qA hr1 hr2)))
 clear hb1 hr0 hr1 hr2
 go_enter Tryz.func100, Tryz.ntmps100
 go_wp2_with fail
 rw [← hW1]
 clear hW1
 refine (fread_any n d W1).mono ?_
 rintro e w1 ⟨v1, ok1, rfl, hok1, hb1⟩
 obtain ⟨a0, n0, c0, b0, d0, e0, f0, rfl⟩ := fread_shape hok1
 have HO1 := qH hok1
 have k1 := cell_of_row w1 _ 0 _ _ _ ((hb1.block _ (qG HR.out.2.2.1).1).trans HR.out.2.2.1)
 have k2 := cell_of_row w1 _ 1 _ _ _ ((hb1.block _ (qG HR.out.2.2.1).1).trans HR.out.2.2.1)
 have q1 : w.heap.size + 1 < w1.heap.size := Nat.lt_of_lt_of_le (qG HR.out.2.2.1).1 hb1.size
 have HB1 := qH hb1
 clear hb1 hok1
 go_wp2_with fail
 obtain ⟨V1, hV1⟩ : ∃ V1, V1 = w1.alloc (.cells #[.slice a0 n0 c0, .bool b0, .slice d0 e0 f0] 138) := ⟨_, rfl⟩
 rw [← hV1]
 have hv1 : V1.heap[w1.heap.size]? = some (.cells #[.slice a0 n0 c0, .bool b0, .slice d0 e0 f0] 138 (0, 0)) := by rw [hV1]; exact qM _ _ _ rfl
 have hbv1 : Below w1.heap.size w1 V1 := hV1 ▸ balloc qB qN
 clear hV1 k1 k2
 refine (fread_any m c V1).mono ?_
 rintro e w2 ⟨v2, ok2, rfl, hok2, hb2⟩
 obtain ⟨a1, n1, c1, b1, d1, e1, f1, rfl⟩ := fread_shape hok2
 have HO2 := qH hok2
 have hr8 := (hb2.block _ (qG hv1).1).trans hv1
 have hb12 : Below w1.heap.size w1 w2 := hbv1.trans (hb2.mono hbv1.size)
 have HB2 := qH hb12
 have hbw : Below w.heap.size w w2 := HR.out.1.trans ((HB1.out.trans (hb12.mono HB1.out.size)).mono HR.out.1.size)
 obtain ⟨V2, hV2⟩ : ∃ V2, V2 = w2.alloc (.cells #[.slice a1 n1 c1, .bool b1, .slice d1 e1 f1] 138) := ⟨_, rfl⟩
 have hbv2 : Below w2.heap.size w2 V2 := hV2 ▸ balloc qB qN
 have r8 := (hbv2.block _ (qG hr8).1).trans hr8
 have r9 : V2.heap[w2.heap.size]? = some (.cells #[.slice a1 n1 c1, .bool b1, .slice d1 e1 f1] 138 (0, 0)) := by rw [hV2]; exact qM _ _ _ rfl
 have HV2 := qH (qA r8 (qA r9 (qA (hbw.trans (hbv2.mono hbw.size)) hbv2)))
 have x0 := cell_of_row w2 _ 0 _ _ _ hr8
 have x1 := cell_of_row w2 _ 1 _ _ _ hr8
 have x2 := cell_of_row w2 _ 2 _ _ _ hr8
 have lt8 := (qG hr8).1
 have HVe := qH hV2
 clear hv1 hbv1 hb2 hok2 hr8 hb12 hbw hbv2 r8 r9 hV2
 have HO := qH (fun (h1 : FOk n.data.toList d.data.toList) (h2 : FOk m.data.toList c.data.toList) (hv : RatV V2 (.agg #[.slice a0 n0 c0, .bool b0, .slice d0 e0 f0]) (fval n.data.toList d.data.toList)) (hu : RatV V2 (.agg #[.slice a1 n1 c1, .bool b1, .slice d1 e1 f1]) (fval m.data.toList c.data.toList)) => rmul_any _ _ 67 (by decide) _ _ V2 hv hu h1.fit h2.fit)
 have HRZ : Hid (V2.heap[w.heap.size + 1 + 1]? = some (.cells #[.slice none 0 0, .bool false, .slice none 0 0] 138 (0, 0))) := qH (by
  have h1 := (HB1.out.block _ (qG HR.out.2.2.2).1).trans HR.out.2.2.2
  have h2 := (HB2.out.block _ (qG h1).1).trans h1
  exact (HV2.out.2.2.2.block _ (qG h2).1).trans h2)
 rcases HO1.out with ⟨rfl, hf1, hv1⟩ | ⟨rfl, hf1, _⟩
 ·rcases HO2.out with ⟨rfl, hf2, hv2⟩ | ⟨rfl, hf2, _⟩
  ·have hc := HO.out hf1 hf2 ((hf1.at hv1).below (HB2.out.trans (HV2.out.2.2.2.mono HB2.out.size))) ((hf2.at hv2).below HV2.out.2.2.2)
   have HC := qH (qA hc (qA hf1 hf2))
   clear hf1 hf2 hv1 hv2 hc
   go_wp2_with fail
   rw [← HVe.out]
   refine HC.out.1.mono ?_
   rintro e w9 ⟨v9, rfl, hb9, hv9⟩
   obtain ⟨a7, n7, c7, b7, d7, e7, f7, rfl⟩ := rat_shape hv9
   have hr9 := (hb9.block _ (qG HRZ.out).1).trans HRZ.out
   have H9 := qH (qA hr9 (qA (HV2.out.2.2.1.trans (hb9.mono HV2.out.2.2.1.size)) (rat_setRow (cs' := #[.slice a7 n7 c7, .bool b7, .slice d7 e7 f7]) hv9 hr9)))
   clear hb9 hv9 hr9
   go_wp2_with ((with_reducible refine wpList_store_row rfl 138 _ _ rfl (w.heap.size + 1 + 1) #[.slice a7 n7 c7, .bool b7, .slice d7 e7 f7] ?_ ?_ 138 _ H9.out.1 3 ?_ ?_ ?_ ?_ ?_); (next => rfl); (next => rfl); (next => kernel_rfl); (next => rfl); (next => rfl); (next => rfl))
   exact bodyPost_ret (v := .tuple #[.agg #[.slice a7 n7 c7, .bool b7, .slice d7 e7 f7], .int .i64 0]) (results_row2 rfl _ _ (w.heap.size + 1 + 1) 138 #[.slice a7 n7 c7, .bool b7, .slice d7 e7 f7] _ rfl (setRow_heap _ _ _ _ _ _ H9.out.1) Tryz.underlying138 rfl 3 (by kernel_rfl) rfl _ rfl) rfl ⟨⟨_, _, rfl, Or.inl ⟨HC.out.2, rfl, H9.out.2.2⟩⟩, below_setRow H9.out.2.1 (by omega) _⟩
  ·have HN := qH (show ¬ (FOk n.data.toList d.data.toList ∧ FOk m.data.toList c.data.toList) from fun h => hf2 h.2)
   clear hf1 hf2 hv1
   have hrz : ((w2.alloc (.cells #[.slice a1 n1 c1, .bool b1, .slice d1 e1 f1] 138)).alloc (.cells #[.slice none 0 0, .bool false, .slice none 0 0] 138)).heap[w.heap.size + 1 + 1]? = some (.cells #[.slice none 0 0, .bool false, .slice none 0 0] 138 (0, 0)) := by
    rw [← HVe.out]; exact (qL _ _ _ (qG HRZ.out).1).trans HRZ.out
   have HRZ2 := qH hrz
   have HBZ := qH (show Below w.heap.size w ((w2.alloc (.cells #[.slice a1 n1 c1, .bool b1, .slice d1 e1 f1] 138)).alloc (.cells #[.slice none 0 0, .bool false, .slice none 0 0] 138)) from HVe.out ▸ (HV2.out.2.2.1.alloc HV2.out.2.2.1.size _))
   clear hrz
   go_wp2_with ((with_reducible refine wpList_store_row rfl 138 _ _ rfl (w.heap.size + 1 + 1) #[.slice none 0 0, .bool false, .slice none 0 0] ?_ ?_ 138 _ HRZ2.out 3 ?_ ?_ ?_ ?_ ?_); (next => rfl); (next => rfl); (next => kernel_rfl); (next => rfl); (next => rfl); (next => rfl))
   exact bodyPost_ret (v := .tuple #[.agg #[.slice none 0 0, .bool false, .slice none 0 0], .int .i64 20]) (results_row2 rfl _ _ (w.heap.size + 1 + 1) 138 #[.slice none 0 0, .bool false, .slice none 0 0] _ rfl (setRow_heap _ _ _ _ _ _ HRZ2.out) Tryz.underlying138 rfl 3 (by kernel_rfl) rfl _ rfl) rfl ⟨⟨_, _, rfl, Or.inr ⟨HN.out, rfl, rfl⟩⟩, below_setRow HBZ.out (by omega) _⟩
 ·have HN := qH (show ¬ (FOk n.data.toList d.data.toList ∧ FOk m.data.toList c.data.toList) from fun h => hf1 h.1)
  clear hf1
  have hrz : ((w2.alloc (.cells #[.slice a1 n1 c1, .bool b1, .slice d1 e1 f1] 138)).alloc (.cells #[.slice none 0 0, .bool false, .slice none 0 0] 138)).heap[w.heap.size + 1 + 1]? = some (.cells #[.slice none 0 0, .bool false, .slice none 0 0] 138 (0, 0)) := by
   rw [← HVe.out]; exact (qL _ _ _ (qG HRZ.out).1).trans HRZ.out
  have HRZ2 := qH hrz
  have HBZ := qH (show Below w.heap.size w ((w2.alloc (.cells #[.slice a1 n1 c1, .bool b1, .slice d1 e1 f1] 138)).alloc (.cells #[.slice none 0 0, .bool false, .slice none 0 0] 138)) from HVe.out ▸ (HV2.out.2.2.1.alloc HV2.out.2.2.1.size _))
  clear hrz
  go_wp2_with ((with_reducible refine wpList_store_row rfl 138 _ _ rfl (w.heap.size + 1 + 1) #[.slice none 0 0, .bool false, .slice none 0 0] ?_ ?_ 138 _ HRZ2.out 3 ?_ ?_ ?_ ?_ ?_); (next => rfl); (next => rfl); (next => kernel_rfl); (next => rfl); (next => rfl); (next => rfl))
  exact bodyPost_ret (v := .tuple #[.agg #[.slice none 0 0, .bool false, .slice none 0 0], .int .i64 20]) (results_row2 rfl _ _ (w.heap.size + 1 + 1) 138 #[.slice none 0 0, .bool false, .slice none 0 0] _ rfl (setRow_heap _ _ _ _ _ _ HRZ2.out) Tryz.underlying138 rfl 3 (by kernel_rfl) rfl _ rfl) rfl ⟨⟨_, _, rfl, Or.inr ⟨HN.out, rfl, rfl⟩⟩, below_setRow HBZ.out (by omega) _⟩
end Go.Proofs.YtfminfgabiipjaaGreatDoor
end
section
namespace Go.Proofs.YtfminfgabiipjaaGreatDoor
open Go.RowKit
theorem RFit.add {p q : Rat} {K : Nat} (hp : RFit p K) (hq : RFit q K) : RFit (p + q) (K + K + 1) := by
 have h1 : Fit (p.num * q.den + q.num * p.den).natAbs (K + K + 1) := by
  refine (Fit.add (x := (p.num * q.den).natAbs) (y := (q.num * p.den).natAbs) (K := K + K) ?_ ?_).le (Int.natAbs_add_le _ _)
  ·rw [Int.natAbs_mul, Int.natAbs_natCast]; exact hp.1.mul hq.2
  ·rw [Int.natAbs_mul, Int.natAbs_natCast]; exact hq.1.mul hp.2
 have h2 : Fit (p.den * q.den) (K + K + 1) := (hp.2.mul hq.2).mono (by omega)
 rw [Rat.add_def']
 have hne := Nat.mul_ne_zero p.den_nz q.den_nz
 constructor
 ·rw [Rat.num_mkRat, if_neg hne]
  refine h1.le ?_
  rw [Int.natAbs_ediv_of_dvd (Int.ofNat_dvd_left.2 (Nat.gcd_dvd_right _ _))]
  exact Nat.div_le_self _ _
 ·rw [Rat.den_mkRat, if_neg hne]
  exact h2.le (Nat.div_le_self _ _)
theorem RFit.mul {p q : Rat} {K : Nat} (hp : RFit p K) (hq : RFit q K) : RFit (p * q) (K + K) := by
 have h1 : Fit (p.num * q.num).natAbs (K + K) := by rw [Int.natAbs_mul]; exact hp.1.mul hq.1
 have h2 : Fit (p.den * q.den) (K + K) := hp.2.mul hq.2
 rw [Rat.mul_def']
 have hne := Nat.mul_ne_zero p.den_nz q.den_nz
 constructor
 ·rw [Rat.num_mkRat, if_neg hne]
  refine h1.le ?_
  rw [Int.natAbs_ediv_of_dvd (Int.ofNat_dvd_left.2 (Nat.gcd_dvd_right _ _))]
  exact Nat.div_le_self _ _
 ·rw [Rat.den_mkRat, if_neg hne]
  exact h2.le (Nat.div_le_self _ _)
theorem FCmps.below {w W : World} {n d m c : List UInt8} {e : Ending} {w' : World} (hb : Below w.heap.size w W) (h : FCmps W n d m c e w') : FCmps w n d m c e w' := ⟨h.1, hb.trans (h.2.mono hb.size)⟩
set_option maxRecDepth 100000 in
set_option maxHeartbeats 1000000 in
theorem fresult_err (a : Option Addr) (x c : Nat) (b : Bool) (d : Option Addr) (e0 f : Nat) (w : World) :
  Calls Tryz.prog 99 #[.agg #[.slice a x c, .bool b, .slice d e0 f], .int .i64 20] w fun e w' => e = .returned (.tuple #[.agg #[.string ⟨#[]⟩, .string ⟨#[]⟩], .int .i64 20]) ∧ Below w.heap.size w w' := by
 have HB : ∀ cs, Hid (Below w.heap.size w ((w.alloc (.cells #[.slice a x c, .bool b, .slice d e0 f] 138)).alloc (.cells cs 46))) := fun cs => qH (balloc (balloc qB qN) qN)
 go_enter Tryz.func99, Tryz.ntmps99
 go_wp2_with fail
 exact bodyPost_ret (v := .tuple #[.agg #[.string ⟨#[]⟩, .string ⟨#[]⟩], .int .i64 20]) (results_row2 rfl _ _ (w.heap.size + 1) 46 #[.string ⟨#[]⟩, .string ⟨#[]⟩] _ rfl (qM _ _ _ (by simp)) Tryz.underlying46 rfl 2 (by kernel_rfl) rfl _ rfl) rfl ⟨rfl, (HB _).out⟩
set_option maxRecDepth 100000 in
set_option maxHeartbeats 1000000 in
theorem fresult_ok (q : Rat) (K : Nat) (hK0 : 0 < K) (hK : K ≤ 34359738368) (v : Value) (w : World) (hv : RatV w v q) (hq : RFit q K) (hT : HasT w) :
  Calls Tryz.prog 99 #[v, .int .i64 0] w fun e w' => FWrites w q e w' := by
 obtain ⟨a, x, c, b, d, e0, f, rfl⟩ := rat_shape hv
 obtain ⟨W1, hW1⟩ : ∃ W1, W1 = (w.alloc (.cells #[.slice a x c, .bool b, .slice d e0 f] 138)).alloc (.cells #[.string ⟨#[]⟩, .string ⟨#[]⟩] 46) := ⟨_, rfl⟩
 have hb1 : Below w.heap.size w W1 := hW1 ▸ balloc (balloc qB qN) qN
 have hr1 : W1.heap[w.heap.size + 1]? = some (.cells #[.string ⟨#[]⟩, .string ⟨#[]⟩] 46 (0, 0)) := by rw [hW1]; exact qM _ _ _ (by simp)
 have HW := qH (rwrite_any q K hK0 hK _ W1 (hv.below hb1) hq (hT.below hb1))
 have HR := qH (qA hb1 hr1)
 clear hv hq hT hb1 hr1 hK
 go_enter Tryz.func99, Tryz.ntmps99
 go_wp2_with fail
 rw [← hW1]
 clear hW1
 refine HW.out.mono ?_
 rintro e w2 ⟨h, hb⟩
 have H2 := qH (qA ((hb.block _ (qG HR.out.2).1).trans HR.out.2) (HR.out.1.trans (hb.mono HR.out.1.size)))
 clear hb
 rcases h with ⟨hs, rfl⟩ | ⟨hs, rfl⟩
 ·unfold fstr
  have HS := qH hs
  obtain ⟨T1, hT1⟩ : ∃ T, frac.wtxt q.num = T := ⟨_, rfl⟩
  obtain ⟨T2, hT2⟩ : ∃ T, num q.den = T := ⟨_, rfl⟩
  rw [hT1, hT2]
  have HTT := qH (qA hT1 hT2)
  clear hT1 hT2 hs
  go_wp2_with ((with_reducible refine wpList_store_row rfl 46 _ _ rfl (w.heap.size + 1) #[.string T1, .string T2] ?_ ?_ 46 _ H2.out.1 2 ?_ ?_ ?_ ?_ ?_); (next => rfl); (next => rfl); (next => kernel_rfl); (next => rfl); (next => rfl); (next => rfl))
  refine bodyPost_ret (v := .tuple #[.agg #[.string T1, .string T2], .int .i64 0]) (results_row2 rfl _ _ (w.heap.size + 1) 46 _ _ rfl (setRow_heap _ _ _ _ _ _ H2.out.1) Tryz.underlying46 rfl 2 (by kernel_rfl) rfl _ rfl) rfl ⟨Or.inl ⟨HS.out, ?_⟩, below_setRow H2.out.2 (by omega) _⟩
  unfold fstr
  rw [HTT.out.1, HTT.out.2]
 ·have HS := qH hs
  clear hs
  go_wp2_with ((with_reducible refine wpList_store_row rfl 46 _ _ rfl (w.heap.size + 1) #[.string ⟨#[]⟩, .string ⟨#[]⟩] ?_ ?_ 46 _ H2.out.1 2 ?_ ?_ ?_ ?_ ?_); (next => rfl); (next => rfl); (next => kernel_rfl); (next => rfl); (next => rfl); (next => rfl))
  exact bodyPost_ret (v := .tuple #[.agg #[.string ⟨#[]⟩, .string ⟨#[]⟩], .int .i64 6]) (results_row2 rfl _ _ (w.heap.size + 1) 46 _ _ rfl (setRow_heap _ _ _ _ _ _ H2.out.1) Tryz.underlying46 rfl 2 (by kernel_rfl) rfl _ rfl) rfl ⟨Or.inr ⟨HS.out, rfl⟩, below_setRow H2.out.2 (by omega) _⟩
end Go.Proofs.YtfminfgabiipjaaGreatDoor
end
