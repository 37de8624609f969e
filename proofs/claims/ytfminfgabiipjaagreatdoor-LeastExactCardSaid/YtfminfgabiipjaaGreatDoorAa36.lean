/- Aa, part 36: Lst Mt Dft Drf Drg -/
import Derived.Test.YtfminfgabiipjaaGreatDoorAa0
import Derived.Test.YtfminfgabiipjaaGreatDoorAa27
import Derived.Test.YtfminfgabiipjaaGreatDoorAa35
set_option maxRecDepth 100000
set_option maxHeartbeats 16000000
namespace Go.Proofs.YtfminfgabiipjaaGreatDoor
open Go.RowKit
def qgy (w : World) (t : Tbl) (bl wl : List FT) (e : Ending) (w' : World) : Prop :=
  ((¬ TOk t ∧ e = .returned (.tuple #[.slice none 0 0, .int .i64 60])) ∨
   (TOk t ∧ ¬ (FAll bl ∧ FAll wl) ∧ e = .returned (.tuple #[.slice none 0 0, .int .i64 20])) ∨
   (TOk t ∧ FAll bl ∧ FAll wl ∧ ¬ (bl.length = t.length ∧ wl.length = t.length ∧ ¬ Neg wl) ∧ e = .returned (.tuple #[.slice none 0 0, .int .i64 2])) ∨
   (TOk t ∧ FAll bl ∧ FAll wl ∧ bl.length = t.length ∧ wl.length = t.length ∧ ¬ Neg wl ∧
     ((Sing (wid t) (normQ t bl wl t.length) ∧ e = .returned (.tuple #[.slice none 0 0, .int .i64 7])) ∨
      (¬ Sing (wid t) (normQ t bl wl t.length) ∧ ∃ x, qcy (wid t) (normQ t bl wl t.length) (fun r => normQ t bl wl t.length r (wid t)) x ∧ Tells (wid t) x e w')))) ∧ Below w.heap.size w w'
theorem qiH {W : World} {ao : Option Addr} {b off n c : Nat} {l : List FT} {ao2 : Option Addr} {b2 off2 n2 c2 : Nat} {l2 : List FT} {g : Nat} {ty : TypeId} (hg : W.heap[g]? = some (.cells #[.slice ao n c, .slice ao2 n2 c2] ty (0, 0))) (hn : l.length = n) (h : FCells W ao b off l) (hn2 : l2.length = n2) (h2 : FCells W ao2 b2 off2 l2) : TCells W (some ⟨g, 0, none⟩) g 0 [l, l2] := by
 refine ⟨fun _ => rfl, fun k hk => ?_⟩
 rcases (show k = 0 ∨ k = 1 by simp at hk; omega) with rfl | rfl
 ·exact ⟨ao, b, off, c, by rw [show ([l, l2] : Tbl).getD 0 [] = l from rfl, hn]; exact cell_of_row _ _ 0 _ _ _ hg, h⟩
 ·exact ⟨ao2, b2, off2, c2, by rw [show ([l, l2] : Tbl).getD 1 [] = l2 from rfl, hn2]; exact cell_of_row _ _ 1 _ _ _ hg, h2⟩
theorem qkC {l l2 : List FT} : (∀ k, k < ([l, l2] : Tbl).length → FAll (([l, l2] : Tbl).getD k [])) ↔ FAll l ∧ FAll l2 :=
 ⟨fun h => ⟨h 0 (by simp), h 1 (by simp)⟩, fun h k hk => by
  rcases (show k = 0 ∨ k = 1 by simp at hk; omega) with rfl | rfl
  ·exact h.1
  ·exact h.2⟩
theorem qj6 (ao : Option Addr) (b off R c : Nat) (t : Tbl) (ao2 : Option Addr) (b2 off2 m c2 : Nat) (bl : List FT) (ao3 : Option Addr) (b3 off3 q c3 : Nat) (wl : List FT) (w : World) (hR : t.length = R) (hl : R ≤ 4611686018427387904) (hw : ∀ k, k < R → (t.getD k []).length ≤ 4611686018427387904) (hc : TCells w ao b off t)
  (hm : bl.length = m) (hl2 : m ≤ 4611686018427387904) (hc2 : FCells w ao2 b2 off2 bl) (hq : wl.length = q) (hl3 : q ≤ 4611686018427387904) (hc3 : FCells w ao3 b3 off3 wl) (hT : HasT w) :
  Calls Tryz.prog 22 #[.slice ao R c, .slice ao2 m c2, .slice ao3 q c3] w fun e w' => qgy w t bl wl e w' := by
 obtain ⟨W1, hW1⟩ : ∃ W1, W1 = w.alloc (.cells #[.slice ao2 m c2, .slice ao3 q c3] 23) := ⟨_, rfl⟩
 have hb1 : Below w.heap.size w W1 := hW1 ▸ qbW qB qN
 have hr1 : W1.heap[w.heap.size]? = some (.cells #[.slice ao2 m c2, .slice ao3 q c3] 23 (0, 0)) := by rw [hW1]; exact qM _ _ _ rfl
 have HK := qH (qd1 ao b off R c t (some ⟨w.heap.size, 0, none⟩) w.heap.size 0 2 2 [bl, wl] W1 hR hl hw (hc.below hb1) rfl (by omega) (fun k hk => by
  rcases (show k = 0 ∨ k = 1 by omega) with rfl | rfl
  ·show bl.length ≤ _; omega
  ·show wl.length ≤ _; omega) (qiH hr1 hm (hc2.below hb1) hq (hc3.below hb1)))
 have HC := qH (qA hc (qA hR (qA hc2 (qA hm (qA hc3 (qA hq hT))))))
 have HB1 := qH hb1
 clear hR hw hc hm hc2 hb1 hr1 hT hq hc3
 go_enter Tryz.func22, Tryz.ntmps22
 go_wp2_with fail
 rw [← hW1]
 clear hW1
 refine HK.out.mono ?_
 rintro e w2 ⟨cc, rfl, hcc, hb2⟩
 have HB := qH (HB1.out.trans (hb2.mono HB1.out.size))
 clear hb2
 rcases hcc with ⟨rfl, hT⟩ | ⟨rfl, hT, hL⟩ | ⟨rfl, hT, hL⟩
 ·have HT := qH hT
  clear hT
  go_wp2_with fail
  go_ret2
  exact ⟨qaz ⟨HT.out, rfl⟩, HB.out⟩
 ·have HT := qH (qA hT hL)
  clear hT hL
  go_wp2_with fail
  go_ret2
  exact ⟨qav (qaz ⟨HT.out.1, fun h => HT.out.2 (qkC.2 h), rfl⟩), HB.out⟩
 obtain ⟨hLb, hLw⟩ := qkC.1 hL
 have hR40 : R ≤ 40 := by have := hT.r2; have := HC.out.2.1; omega
 have hR1 : 1 ≤ R := by have := hT.r1; have := HC.out.2.1; omega
 have haw := HC.out.1.addr (by have := HC.out.2.1; omega)
 subst haw
 obtain ⟨n, hn⟩ : ∃ n, wid t = n := ⟨_, rfl⟩
 have hn10 : n ≤ 10 := by have := hT.c2; omega
 have hn1 : 1 ≤ n := by have := hT.c1; omega
 have HX := qH (qA hT (qA hLb (qA hLw hn)))
 clear hT hL hLb hLw hn
 have bad : ∀ (W : World), Below w.heap.size w W → ¬ (bl.length = t.length ∧ wl.length = t.length ∧ ¬ Neg wl) → qgy w t bl wl (.returned (.tuple #[.slice none 0 0, .int .i64 2])) W := fun W h hn => ⟨qav (qav (qaz ⟨HX.out.1, HX.out.2.1, HX.out.2.2.1, hn, rfl⟩)), h⟩
 have BAD := qH bad
 clear bad
 by_cases e1 : m = R
 case neg =>
  have e1b : ((m : Int) != (R : Int)) = true := by rw [bne_iff_ne]; omega
  have HE := qH (BAD.out _ HB.out (fun h => e1 (by rw [← HC.out.2.2.2.1, h.1, HC.out.2.1])))
  clear e1
  go_wp2_with fail
  go_ret2
  exact HE.out
 have e1b : ((m : Int) != (R : Int)) = false := by simp [e1]
 by_cases e2 : q = R
 case neg =>
  have e2b : ((q : Int) != (R : Int)) = true := by rw [bne_iff_ne]; omega
  have HE := qH (BAD.out _ HB.out (fun h => e2 (by rw [← HC.out.2.2.2.2.2.1, h.2.1, HC.out.2.1])))
  clear e2 e1
  go_wp2_with fail
  go_ret2
  exact HE.out
 have e2b : ((q : Int) != (R : Int)) = false := by simp [e2]
 have He := qH (qA e1 e2)
 have haw2 := HC.out.2.2.1.addr (by have := HC.out.2.2.2.1; omega)
 subst haw2
 have haw3 := HC.out.2.2.2.2.1.addr (by have := HC.out.2.2.2.2.2.1; omega)
 subst haw3
 have hng := qga (some ⟨b3, off3, none⟩) b3 off3 q c3 wl w2 HC.out.2.2.2.2.2.1 (by omega) (HC.out.2.2.2.2.1.below HB.out) HX.out.2.2.1
 have HN := qH hng
 have hqR : (q : Int) ≤ R := by omega
 clear e1 e2 hng
 go_wp2_with fail
 refine HN.out.mono ?_
 rintro e w3 ⟨x, rfl, hx, hb3⟩
 have HB3 := qH (HB.out.trans (hb3.mono HB.out.size))
 clear hb3
 cases x with
 | true =>
  have HE := qH (BAD.out _ HB3.out (fun h => h.2.2 (hx.1 rfl)))
  clear hx
  go_wp2_with fail
  go_ret2
  exact HE.out
 | false =>
  have hnn : ¬ Neg wl := fun h => by have := hx.2 h; cases this
  have hno := qkd b off c t b2 off2 c2 bl b3 off3 c3 wl R n w3 HX.out.1 HC.out.2.1 HX.out.2.2.2 (HC.out.1.below HB3.out) HX.out.2.1 (by rw [HC.out.2.2.2.1]; exact He.out.1) (HC.out.2.2.1.below HB3.out) HX.out.2.2.1 (by rw [HC.out.2.2.2.2.2.1]; exact He.out.2) (HC.out.2.2.2.2.1.below HB3.out) hnn
  have hmR : (m : Int) = R := by have := He.out.1; omega
  have hqR2 : (q : Int) = R := by have := He.out.2; omega
  obtain rfl : m = R := He.out.1
  obtain rfl : q = m := He.out.2
  have HNo := qH hno
  have Hnn := qH hnn
  clear hx hno hnn hmR hqR2 hqR
  go_wp2_with fail
  refine HNo.out.mono ?_
  rintro e w4 ⟨tb, gs, M, Z, rfl, hb4, htb, hZ, hMt, hval, hfit⟩
  have hb14 := HB3.out.trans (hb4.mono HB3.out.size)
  have hsv := qiz tb n 63440 gs M w4 hn1 hn10 (by omega) (by omega) hMt (fun i hi => by
   obtain ⟨ps, _, h, _⟩ := hMt.rows i hi
   exact (qG h.1).1) (fun i hi j hj => hfit i hi j hj) (HC.out.2.2.2.2.2.2.below hb14)
  have HS := qH hsv
  have hZq : (Z : Rat) ≠ 0 := by have := qbF hZ; exact_mod_cast this
  have hA : ∀ i, i < n → ∀ j, j < n → castM M i j = (Z : Rat) * normQ t bl wl q i j := fun i hi j hj => hval i hi j (by omega)
  have hAb : ∀ i, i < n → castM M i n = (Z : Rat) * normQ t bl wl q i n := fun i hi => hval i hi n (by omega)
  have hsg := Sing.scale (fun _ => (Z : Rat)) (fun _ _ => hZq) hA
  have hsol : ∀ x, qcy n (castM M) (fun i => castM M i n) x → qcy n (normQ t bl wl q) (fun r => normQ t bl wl q r n) x := fun x hx => qcy.scale (fun _ => (Z : Rat)) (fun _ _ => hZq) hA hAb hx
  have HZ := qH (qA hsg (qA hsol (qA hb14 (qam HB3.out.size htb))))
  clear hsv hb4 htb hZ hMt hval hfit hZq hA hAb hsg hsol hb14
  go_wp2_with fail
  refine HS.out.mono ?_
  rintro e w5 ⟨hg5, h5⟩
  have hbb := qel HZ.out.2.2.1 hg5 HZ.out.2.2.2
  have FIN : qgy w t bl wl e w5 := by
   refine ⟨qav (qav (qav ⟨HX.out.1, HX.out.2.1, HX.out.2.2.1, by rw [HC.out.2.2.2.1, HC.out.2.1], by rw [HC.out.2.2.2.2.2.1, HC.out.2.1], Hnn.out, ?_⟩)), hbb⟩
   rw [HC.out.2.1, HX.out.2.2.2]
   rcases h5 with ⟨h, e⟩ | ⟨h, x, hx, ht⟩
   ·exact qaz ⟨HZ.out.1.1 h, e⟩
   ·exact qav ⟨fun hs => h (HZ.out.1.2 hs), x, HZ.out.2.1 x hx, ht⟩
  have HF := qH FIN
  clear FIN hbb hg5
  rcases h5 with ⟨_, rfl⟩ | ⟨_, x, _, ⟨_, g, rfl, _⟩ | ⟨_, rfl⟩⟩
  all_goals
   go_wp2_with fail
   go_ret2
   exact HF.out
theorem qli (p1 p2 g1 g2 n1 n2 j : Nat) (m1 m2 : Nat → Int) (K J : Nat) (hKJ : K + J ≤ 274877906944) (w : World)
  (h1 : w.cell? ⟨p1, 0, none⟩ = some (rowv g1 n1)) (h2 : w.cell? ⟨p2, 0, none⟩ = some (rowv g2 n2)) (h3 : qcp w g1 n1 m1) (h4 : qcp w g2 n2 m2) (hj1 : j < n1) (hj2 : j < n2) (_hn1 : n1 ≤ 1048576) (_hn2 : n2 ≤ 1048576) (hf1 : Fit (m1 j).natAbs K) (hf2 : Fit (m2 j).natAbs J) :
  Calls Tryz.prog 68 #[.int .i64 j, .pointer (some ⟨p1, 0, none⟩), .pointer (some ⟨p2, 0, none⟩)] w fun e w' => ∃ u, e = .returned u ∧ Below w.heap.size w w' ∧ IntAt w' u (m1 j * m2 j) := by
 obtain ⟨W1, hW1⟩ : ∃ W1, W1 = w.alloc (.cells #[.slice none 0 0, .bool false] 105) := ⟨_, rfl⟩
 have hb1 : Below w.heap.size w W1 := hW1 ▸ qbW qB qN
 have hr1 : W1.heap[w.heap.size]? = some (.cells #[.slice none 0 0, .bool false] 105 (0, 0)) := by rw [hW1]; exact qM _ _ _ rfl
 have hib : qcl W1 w.heap.size 0 := ⟨_, _, _, _, hr1, _, rfl, MagAt.nil _⟩
 obtain ⟨a2, l2, c2, b2, q0, q1, i2⟩ := h3.pair hj1
 obtain ⟨a3, l3, c3, b3, q2, q3, i3⟩ := h4.pair hj2
 have cellF : ∀ (p : Addr) (v : Value), w.cell? p = some v → ∀ W, W1.grownBy W (some w.heap.size) → W.cell? p = some v := fun p v h W hg => by
  have hlt := qag w _ h
  exact (qda hg (qak hlt hb1.size) (Nat.ne_of_lt hlt)).trans ((hb1.cell hlt).trans h)
 have C1 := cellF _ _ h1
 have C2 := cellF _ _ h2
 have C3 := cellF _ _ q0
 have C4 := cellF _ _ q1
 have C5 := cellF _ _ q2
 have C6 := cellF _ _ q3
 have hji1 : (j : Int) < n1 := by omega
 have hji2 : (j : Int) < n2 := by omega
 have HP1 := qH (fun W (h : Below W1.heap.size W1 W) => least.qcQ (m1 j) (m2 j) K J hKJ _ _ W (i2.below (hb1.trans (h.mono hb1.size))) (i3.below (hb1.trans (h.mono hb1.size))) hf1 hf2)
 have HB1 := qH (qA hb1 hib)
 have hst : Below W1.heap.size W1 W1 := Below.refl _ _
 have hstD : Below W1.heap.size W1 W1.drew := hst.drew
 clear cellF h1 h2 h3 h4 q0 q1 q2 q3 i2 i3 hf1 hf2 hb1 hr1 hib
 go_enter Tryz.func68, Tryz.ntmps68
 go_wp2_with fail
 rw [← hW1]
 clear hW1
 go_region_held3 (fun W => W1.grownBy W (some w.heap.size)) (first | with_reducible exact qcI _ _ | with_reducible exact qb7 _ hstD | with_reducible exact qb7 _ HB6 | exact qb4 (qb4 (qb7 _ HB6) (least.qb5 _ _ _ _)) (least.qb5 _ _ _ _)) (first | (go_at_call 69; refine (HP1.out _ hstD).mono ?_; rintro e w6 ⟨u6, rfl, hb6, hu6⟩; have HB6 : Below W1.heap.size W1 w6 := bjoin hstD hb6; obtain ⟨a6, n6, c6, b6, rfl⟩ := least.qb2 hu6; obtain ⟨_, _, _, _, ⟨z0, z1⟩, ⟨f0, f1⟩, _⟩ := (HB1.out.2.below HB6).cells; have HX := qH ((HB1.out.2.below HB6).row2 hu6); clear hb6 hu6))
 all_goals go_wp2_with fail
 all_goals exact bodyPost_ret (v := .agg #[.slice a6 n6 c6, .bool b6]) (qb3 rfl _ _ w.heap.size 105 _ _ rfl HX.out.1 Tryz.underlying105 rfl 2 (by kernel_rfl) rfl) rfl ⟨_, rfl, ((HB1.out.1.trans (HB6.mono HB1.out.1.size)).setCell (p := ⟨w.heap.size, 0, none⟩) qN _).setCell (p := ⟨w.heap.size, 1, none⟩) qN _, HX.out.2⟩
def resQ (t : Tbl) (bl xl : List FT) (n i : Nat) : Rat := sumQ n (fun j => tval t i j * lval xl j) - lval bl i
def measQ (t : Tbl) (bl wl xl : List FT) (n R : Nat) : Rat := sumQ R fun i => lval wl i * (resQ t bl xl n i * resQ t bl xl n i)
def mval2 (t : Tbl) (bl xl : List FT) (n i : Nat) : Int := isum (fun j => ftop (besides t bl i) j * ftop xl j) n + -(ftop (besides t bl i) n * ((flcd xl : Nat) : Int))
theorem qlk {t : Tbl} {bl xl : List FT} {n i : Nat} (hf : FAll (besides t bl i)) (hl : (besides t bl i).length = n + 1) (ht : (t.getD i []).length = n) (hx : FAll xl) (hxl : xl.length = n) :
  ((mval2 t bl xl n i : Int) : Rat) = (flcd (besides t bl i) : Rat) * (flcd xl : Rat) * resQ t bl xl n i := by
 unfold mval2 resQ
 push_cast
 rw [qeb, qdW hf (by omega)]
 have e1 : sumQ n (fun p => (((ftop (besides t bl i) p * ftop xl p : Int)) : Rat)) = (flcd (besides t bl i) : Rat) * (flcd xl : Rat) * sumQ n (fun j => tval t i j * lval xl j) := by
  rw [← qcd]
  refine qb0 fun j hj => ?_
  push_cast
  rw [qdW hf (by omega), qdW hx (by omega)]
  have : lval (besides t bl i) j = tval t i j := qfb (by omega)
  rw [this]; grind
 have e2 : lval (besides t bl i) n = lval bl i := by
  have := qfa (l := t.getD i []) (x := bl.getD i fd0)
  rw [ht] at this
  exact this
 rw [e1, e2]; grind
theorem qfv {t : Tbl} {bl xl : List FT} {n i : Nat} (hf : FAll (besides t bl i)) (hl : (besides t bl i).length = n + 1) (hn : n ≤ 10) (hx : FAll xl) (hxl : xl.length = n) :
  Fit (isum (fun j => ftop (besides t bl i) j * ftop xl j) n).natAbs 1621 ∧ Fit (ftop (besides t bl i) n * ((flcd xl : Nat) : Int)).natAbs 1543 ∧ Fit (mval2 t bl xl n i).natAbs 1622 := by
 have h1 : Fit (isum (fun j => ftop (besides t bl i) j * ftop xl j) n).natAbs 1621 := (qfp _ 1610 n (fun j hj => by
  rw [qax]
  exact ((qc8 hf (m := 11) (by omega) (by omega)).mul (qc8 hx (m := 11) (by omega) (by omega))).mono (by omega))).mono (by omega)
 have h2 : Fit (ftop (besides t bl i) n * ((flcd xl : Nat) : Int)).natAbs 1543 := by
  rw [qax, qas]
  exact ((qc8 hf (m := 11) (by omega) (by omega)).mul (qfm hx (m := 11) (by omega))).mono (by omega)
 refine ⟨h1, h2, ?_⟩
 unfold mval2
 have h3 := h2.mono (show 1543 ≤ 1621 by omega)
 rw [← qbp] at h3
 exact (h1.add h3).le (Int.natAbs_add_le _ _)
theorem qij {a b : Nat} (ha : 0 < a) (hb : 0 < b) : a * (a.lcm b / a) = a.lcm b ∧ b * (a.lcm b / b) = a.lcm b ∧ a.lcm b / a ≤ b ∧ a.lcm b / b ≤ a := by
 have h1 := Nat.mul_div_cancel' (Nat.dvd_lcm_left a b)
 have h2 := Nat.mul_div_cancel' (Nat.dvd_lcm_right a b)
 have h3 : a.lcm b ≤ a * b := Nat.le_of_dvd (qbR ha hb) (Nat.lcm_dvd_mul _ _)
 refine ⟨h1, h2, ?_, ?_⟩
 ·exact Nat.div_le_of_le_mul h3
 ·exact Nat.div_le_of_le_mul (by rw [qat]; exact h3)
theorem Fit.zero (K : Nat) : Fit 0 K := Nat.pow_pos (by decide)
structure MSt (t : Tbl) (bl wl xl : List FT) (n i : Nat) (T : Int) (D : Nat) : Prop where
 pos : 0 < D
 val : (T : Rat) = (D : Rat) * ((flcd xl : Rat) * (flcd xl : Rat)) * measQ t bl wl xl n i
 fitD : Fit D (1543 * i + 1)
 fitT : Fit T.natAbs (3400 + 1545 * i)
theorem MSt.start (t : Tbl) (bl wl xl : List FT) (n : Nat) : MSt t bl wl xl n 0 0 1 := ⟨by decide, by simp [measQ, sumQ], by show 1 < 1000000000 ^ (1543 * 0 + 1); decide, Fit.zero _⟩
theorem MSt.skip {t : Tbl} {bl wl xl : List FT} {n i : Nat} {T : Int} {D : Nat} (h : MSt t bl wl xl n i T D) (hw : wnum wl i = 0) : MSt t bl wl xl n (i + 1) T D := by
 refine ⟨h.pos, ?_, h.fitD.mono (by omega), h.fitT.mono (by omega)⟩
 rw [h.val]
 congr 1
 show measQ t bl wl xl n i = measQ t bl wl xl n i + lval wl i * _
 rw [qik hw]; grind
theorem MSt.next {t : Tbl} {bl wl xl : List FT} {n i : Nat} {T : Int} {D : Nat} (h : MSt t bl wl xl n i T D) (hr : NRow t bl wl i) (hl : (besides t bl i).length = n + 1) (ht : (t.getD i []).length = n) (hx : FAll xl) (hxl : xl.length = n) (hn : n ≤ 10) :
  MSt t bl wl xl n (i + 1) (T * ((D.lcm (wdn t bl wl i) / D : Nat) : Int) + ((wnum wl i : Nat) : Int) * mval2 t bl xl n i * mval2 t bl xl n i * ((D.lcm (wdn t bl wl i) / wdn t bl wl i : Nat) : Int)) (D.lcm (wdn t bl wl i)) := by
 obtain ⟨p1, p2, p3, p4⟩ := qij h.pos hr.d.1
 have hv := qlk hr.fa hl ht hx hxl
 have hfv := (qfv hr.fa hl hn hx hxl).2.2
 refine ⟨Nat.lcm_pos h.pos hr.d.1, ?_, ?_, ?_⟩
 ·have q1 : (D : Rat) * ((D.lcm (wdn t bl wl i) / D : Nat) : Rat) = (D.lcm (wdn t bl wl i) : Rat) := by exact_mod_cast p1
  have q2 : ((wdn t bl wl i : Nat) : Rat) * ((D.lcm (wdn t bl wl i) / wdn t bl wl i : Nat) : Rat) = (D.lcm (wdn t bl wl i) : Rat) := by exact_mod_cast p2
  have hd : ((wdn t bl wl i : Nat) : Rat) = (fden (wl.getD i fd0) : Rat) * (flcd (besides t bl i) : Rat) * (flcd (besides t bl i) : Rat) := by unfold wdn; push_cast; rfl
  have hwl : (wnum wl i : Rat) = lval wl i * (fden (wl.getD i fd0) : Rat) := by
   unfold lval
   rw [qhC]
   have : (ival (wl.getD i fd0).1.data.toList : Int) = (wnum wl i : Int) := by have := hr.nn; unfold wnum; omega
   have hne : ((fden (wl.getD i fd0) : Nat) : Rat) ≠ 0 := by have := qbF hr.wd.1; exact_mod_cast this
   rw [this]
   show (wnum wl i : Rat) = (wnum wl i : Rat) / ((fden (wl.getD i fd0) : Nat) : Rat) * _
   grind
  show _ = _ * (measQ t bl wl xl n i + lval wl i * (resQ t bl xl n i * resQ t bl xl n i))
  rw [hd] at q2
  clear p1 p2 p3 p4
  generalize D.lcm (wdn t bl wl i) / D = A at *
  generalize D.lcm (wdn t bl wl i) / wdn t bl wl i = B at *
  push_cast
  rw [h.val, hv]
  generalize ((D.lcm (wdn t bl wl i) : Nat) : Rat) = L at *
  generalize ((flcd (besides t bl i) : Nat) : Rat) = F at *
  generalize ((flcd xl : Nat) : Rat) = U at *
  generalize ((fden (wl.getD i fd0) : Nat) : Rat) = E at *
  generalize resQ t bl xl n i = r at *
  generalize measQ t bl wl xl n i = M at *
  generalize lval wl i = l at *
  rw [hwl]
  have e1 : (D : Rat) * (U * U) * M * A = L * (U * U) * M := by rw [← q1]; grind
  have e2 : l * E * (F * U * r) * (F * U * r) * B = L * (U * U) * (l * (r * r)) := by rw [← q2]; grind
  rw [e1, e2]; grind
 ·exact ((h.fitD.mul hr.d.2).le (Nat.le_of_dvd (qbR h.pos hr.d.1) (Nat.lcm_dvd_mul _ _))).mono (by omega)
 ·have f1 : Fit (T * ((D.lcm (wdn t bl wl i) / D : Nat) : Int)).natAbs (3400 + 1545 * i + 1543) := by
   rw [qax, qas]
   exact h.fitT.mul (hr.d.2.le p3)
  have f2 : Fit (((wnum wl i : Nat) : Int) * mval2 t bl xl n i * mval2 t bl xl n i * ((D.lcm (wdn t bl wl i) / wdn t bl wl i : Nat) : Int)).natAbs (67 + 1622 + 1622 + (1543 * i + 1)) := by
   rw [qax, qax, qax, qas, qas]
   exact ((hr.wn.mul hfv).mul hfv).mul (h.fitD.le p4)
  exact (((f1.mono (show _ ≤ 3400 + 1545 * i + 1544 by omega)).add (f2.mono (show _ ≤ 3400 + 1545 * i + 1544 by omega))).le (Int.natAbs_add_le _ _)).mono (by omega)
end Go.Proofs.YtfminfgabiipjaaGreatDoor
namespace Go.Proofs.YtfminfgabiipjaaGreatDoor
open Go.Lib
theorem qjv (x : Nat) : itxt (x : Int) = decDigits x := by
 unfold itxt
 rw [if_neg (by omega), qas]
theorem qdV {q : Rat} (h : Short q) : FOk (ftxt q).1.data.toList (ftxt q).2.data.toList := by
 obtain ⟨h1, h2⟩ := h
 rw [qdH] at h1 h2
 have e2 : (ftxt q).2.data.toList = itxt (q.den : Int) := (qjv q.den).symm
 have e1 : (ftxt q).1.data.toList = itxt q.num := rfl
 have hp := q.den_pos
 rw [e1, e2]
 refine ⟨qhu h1, qhu (by rw [qas]; exact h2), ?_, ?_⟩
 ·rw [qdn]; omega
 ·rw [qdn, qdn, qas]; exact q.reduced
theorem qc6 (q : Rat) : fval (ftxt q).1.data.toList (ftxt q).2.data.toList = q := by
 have e2 : (ftxt q).2.data.toList = itxt (q.den : Int) := (qjv q.den).symm
 have e1 : (ftxt q).1.data.toList = itxt q.num := rfl
 rw [e1, e2]
 unfold fval
 rw [qdn, qdn, qas]
 exact Rat.mkRat_self q
theorem ftxt_inj {p q : Rat} (h : ftxt p = ftxt q) : p = q := by
 rw [← qc6 p, ← qc6 q, h]
theorem qeA {n : Nat} {x : Nat → Rat} {i : Nat} (hi : i < n) : (told n x).getD i fd0 = ftxt (x i) := by
 unfold told
 rw [qab, qaA, qaV hi]; rfl
theorem qdN {n : Nat} {x : Nat → Rat} {i : Nat} (hi : i < n) : lval (told n x) i = x i := by
 unfold lval; rw [qeA hi, qc6]
theorem qc5 {n : Nat} {x : Nat → Rat} (h : qb9 n x) : FAll (told n x) := fun k hk => by
 rw [qbZ] at hk
 rw [qeA hk]; exact qdV (h k hk)
theorem qdk {n : Nat} {x y : Nat → Rat} (h : ∀ i, i < n → x i = y i) : told n x = told n y := by
 unfold told
 exact List.map_congr_left fun i hi => by rw [h i (List.mem_range.1 hi)]
theorem told_inj {n : Nat} {x y : Nat → Rat} (h : told n x = told n y) : ∀ i, i < n → x i = y i := fun i hi => by
 have := congrArg (fun l : List FT => l.getD i fd0) h
 simp only [qeA hi] at this
 exact ftxt_inj this
theorem qb9.congr {n : Nat} {x y : Nat → Rat} (h : qb9 n x) (e : ∀ i, i < n → x i = y i) : qb9 n y := fun i hi => by rw [← e i hi]; exact h i hi
def ttab (n m : Nat) (f : Nat → Nat → Rat) : Tbl := (List.range n).map fun i => told m (f i)
theorem qce (n m : Nat) (f : Nat → Nat → Rat) : (ttab n m f).length = n := by unfold ttab; rw [qaG, qbq]
theorem qdi {n m : Nat} {f : Nat → Nat → Rat} {i : Nat} (hi : i < n) : (ttab n m f).getD i [] = told m (f i) := by
 unfold ttab
 rw [qab, qaA, qaV hi]; rfl
theorem qdJ {n m : Nat} {f : Nat → Nat → Rat} (h : 0 < n) : wid (ttab n m f) = m := by unfold wid; rw [qdi h, qbZ]
theorem qf3 {n m : Nat} {f : Nat → Nat → Rat} (h1 : 1 ≤ n) (h2 : n ≤ 40) (h3 : 1 ≤ m) (h4 : m ≤ 10) (h : ∀ i, i < n → qb9 m (f i)) : TOk (ttab n m f) := by
 refine ⟨by rw [qce]; exact h1, by rw [qce]; exact h2, by rw [qdJ h1]; exact h3, by rw [qdJ h1]; exact h4, fun k hk => ?_⟩
 rw [qce] at hk
 rw [qdJ h1, qdi hk, qbZ]
 exact ⟨rfl, qc5 (h k hk)⟩
theorem qhV {n m : Nat} {f : Nat → Nat → Rat} {i j : Nat} (hi : i < n) (hj : j < m) : tval (ttab n m f) i j = f i j := by
 unfold tval; rw [qdi hi, qdN hj]
def Rb (q : Rat) (N : Nat) : Prop := q.num.natAbs ≤ N ∧ q.den ≤ N
theorem qgc {q : Rat} {p z : Int} {N : Nat} (hz : z ≠ 0) (hp : p.natAbs ≤ N) (hzN : z.natAbs ≤ N) (h : q = (p : Rat) / z) : Rb q N := by
 have e : q = Rat.divInt p z := by rw [h, Rat.divInt_eq_div]
 have hg : 0 < p.natAbs.gcd z.natAbs := qbi _ (by omega)
 obtain ⟨h1, h2⟩ := qhP p z hz
 rw [← e] at h1 h2
 have h3 : q.num.natAbs = p.natAbs / p.natAbs.gcd z.natAbs := by
  rw [h1]
  generalize p.natAbs / p.natAbs.gcd z.natAbs = A
  split <;> omega
 exact ⟨by rw [h3]; exact qam (qaR _ _) hp, by rw [h2]; exact qam (qaR _ _) hzN⟩
theorem qf6 {x k : Nat} (hk : 0 < k) (h : x < 10 ^ k) : (num x).size ≤ k := by rw [qdH]; exact qcg k x hk h
theorem qdy {q : Rat} {N : Nat} (h : Rb q N) (hN : N < 10 ^ 600) : Short q :=
 ⟨qf6 (by decide) (qbg h.1 hN), qf6 (by decide) (qbg h.2 hN)⟩
theorem Rb.mono {q : Rat} {N M : Nat} (h : Rb q N) (hM : N ≤ M) : Rb q M := ⟨qam h.1 hM, qam h.2 hM⟩
end Go.Proofs.YtfminfgabiipjaaGreatDoor
namespace Go.Proofs.YtfminfgabiipjaaGreatDoor
theorem qgL {f : Nat → Int} {M : Nat} : ∀ {k : Nat}, (∀ i, i < k → (f i).natAbs ≤ M) → (isum f k).natAbs ≤ k * M
 | 0, _ => by show (0 : Int).natAbs ≤ _; simp
 | k + 1, h => by
  have h1 := qgL (k := k) (fun i hi => h i (by omega))
  have h2 := h k (by omega)
  show (isum f k + f k).natAbs ≤ (k + 1) * M
  rw [qaM, qbI]; omega
def drn (N : List Int) (k : Nat) : Int := if N.length = 0 then 1 else (N.getD (k % min N.length 60) 0).tmod 21
def drm (D : List Nat) (k : Nat) : Nat := if D.length = 0 then 1 else 1 + D.getD (k % min D.length 60) 0 % 6
def drq (N : List Int) (D : List Nat) (k : Nat) : Rat := Rat.divInt (drn N k) (drm D k)
theorem drn_le (N : List Int) (k : Nat) : (drn N k).natAbs ≤ 20 := by
 unfold drn
 split
 ·decide
 ·rw [Int.natAbs_tmod]
  have := qa3 (N.getD (k % min N.length 60) 0).natAbs (show 0 < (21 : Int).natAbs by decide)
  have e : (21 : Int).natAbs = 21 := rfl
  omega
theorem drm_le (D : List Nat) (k : Nat) : 1 ≤ drm D k ∧ drm D k ≤ 6 := by
 unfold drm
 split <;> omega
def Sm (q : Rat) : Prop := ∃ z : Int, q * 60 = z ∧ z.natAbs ≤ 1200
theorem qkR {a : Int} {m k : Nat} (hm : m ≠ 0) (hk : m * k = 60) : Rat.divInt a m * 60 = ((a * k : Int) : Rat) := by
 rw [Rat.divInt_eq_div]
 have h1 : (m : Rat) ≠ 0 := by exact_mod_cast hm
 have h2 : (m : Rat) * (k : Rat) = 60 := by exact_mod_cast hk
 have e : ((m : Int) : Rat) = (m : Rat) := by norm_cast
 rw [e]
 push_cast
 rw [← h2, qbf]
 have h3 : (m : Rat)⁻¹ * m = 1 := Rat.inv_mul_cancel _ h1
 grind
theorem qeE (N : List Int) (D : List Nat) (k : Nat) : Sm (drq N D k) := by
 have h1 := drn_le N k
 obtain ⟨h2, h3⟩ := drm_le D k
 unfold drq
 obtain ⟨a, ha⟩ : ∃ a, drn N k = a := ⟨_, rfl⟩
 obtain ⟨m, hm⟩ : ∃ m, drm D k = m := ⟨_, rfl⟩
 rw [ha] at h1 ⊢
 rw [hm] at h2 h3 ⊢
 have : ∃ k, m * k = 60 ∧ k ≤ 60 := by
  rcases (show m = 1 ∨ m = 2 ∨ m = 3 ∨ m = 4 ∨ m = 5 ∨ m = 6 by omega) with rfl | rfl | rfl | rfl | rfl | rfl
  ·exact ⟨60, rfl, by decide⟩
  ·exact ⟨30, rfl, by decide⟩
  ·exact ⟨20, rfl, by decide⟩
  ·exact ⟨15, rfl, by decide⟩
  ·exact ⟨12, rfl, by decide⟩
  ·exact ⟨10, rfl, by decide⟩
 obtain ⟨k, hk, hk6⟩ := this
 refine ⟨_, qkR (by omega) hk, ?_⟩
 rw [qax, qas]
 exact qbe h1 hk6
theorem Sm.rb {q : Rat} (h : Sm q) : Rb q 1200 := by
 obtain ⟨z, hz, hle⟩ := h
 exact qgc (p := z) (z := 60) (by decide) hle (by decide) (by
  have e : ((60 : Int) : Rat) = 60 := rfl
  rw [e, qbf]
  have h3 : (60 : Rat)⁻¹ * 60 = 1 := Rat.inv_mul_cancel _ (by decide)
  grind)
theorem Sm.short {q : Rat} (h : Sm q) : Short q := qdy h.rb (by decide +kernel)
theorem Sm.zero : Sm 0 := ⟨0, by rw [Rat.zero_mul]; rfl, by decide⟩
def qabs (q : Rat) : Rat := if q.num < 0 then -q else q
theorem Sm.abs {q : Rat} (h : Sm q) : Sm (qabs q) := by
 unfold qabs
 split
 ·obtain ⟨z, hz, hle⟩ := h
  exact ⟨-z, by rw [show -q * 60 = -(q * 60) by grind, hz]; push_cast; rfl, by rw [qbp]; exact hle⟩
 ·exact h
theorem qhO (q : Rat) : (qabs q).num = (q.num.natAbs : Int) ∧ (qabs q).den = q.den := by
 unfold qabs
 split
 ·rw [Rat.neg_num, Rat.neg_den]; exact ⟨by omega, rfl⟩
 ·exact ⟨by omega, rfl⟩
theorem qi1 (q : Rat) : 0 ≤ qabs q := by
 rw [← Rat.num_nonneg, (qhO q).1]; omega
theorem qjO {f : Nat → Nat → Rat} (h : ∀ i j, Sm (f i j)) : ∃ a : Nat → Nat → Int, ∀ i j, f i j = (a i j : Rat) / 60 ∧ (a i j).natAbs ≤ 1200 :=
 ⟨fun i j => Classical.choose (h i j), fun i j => by
  have := Classical.choose_spec (h i j)
  refine ⟨?_, this.2⟩
  rw [← this.1, qbf]
  have h3 : (60 : Rat) * (60 : Rat)⁻¹ = 1 := qbc _ (by decide)
  rw [Rat.mul_assoc, h3]; grind⟩
theorem qf2 {f : Nat → Rat} (h : ∀ i, Sm (f i)) : ∃ a : Nat → Int, ∀ i, f i = (a i : Rat) / 60 ∧ (a i).natAbs ≤ 1200 := by
 obtain ⟨a, ha⟩ := qjO (f := fun i _ => f i) fun i _ => h i
 exact ⟨fun i => a i 0, fun i => ha i 0⟩
theorem qjH {a p z : Rat} (hz : z ≠ 0) : a / 60 * (p / z) = (1 / (60 * z)) * (a * p) := by
 have h1 : (60 : Rat) * (60 : Rat)⁻¹ = 1 := qbc _ (by decide)
 have h2 : z * z⁻¹ = 1 := qbc _ hz
 have h3 : (60 * z) * (60 * z)⁻¹ = 1 := qbc _ (fun h => by
  rcases qbL.1 h with h | h
  ·exact absurd h (by decide)
  ·exact hz h)
 rw [qbf, qbf, qbf]
 have e : (60 * z)⁻¹ = (60 : Rat)⁻¹ * z⁻¹ := by
  generalize (60 * z)⁻¹ = u at *
  generalize (60 : Rat)⁻¹ = v at *
  generalize z⁻¹ = t at *
  grind
 rw [e]; grind
theorem qjU {m : Nat} {f x : Nat → Rat} {a p : Nat → Int} {z : Int} (hz : z ≠ 0) (hf : ∀ j, f j = (a j : Rat) / 60) (hx : ∀ j, j < m → x j = (p j : Rat) / z) : sumQ m (fun j => f j * x j) = ((isum (fun j => a j * p j) m : Int) : Rat) / ((60 * z : Int) : Rat) := by
 have hzr : (z : Rat) ≠ 0 := by exact_mod_cast hz
 have e : sumQ m (fun j => f j * x j) = sumQ m fun j => (1 / (60 * (z : Rat))) * (((a j * p j : Int)) : Rat) := qb0 fun j hj => by
  rw [hf j, hx j hj, qjH hzr]; push_cast; rfl
 rw [e, qcd, ← qeb]
 push_cast
 rw [qbf, qbf]; grind
theorem qlZ {m n N : Nat} {f x : Nat → Rat} {a p : Nat → Int} {z : Int} (hm : m ≤ n) (hn : n ≤ 4) (hz : z ≠ 0) (hzN : z.natAbs ≤ N) (hf : ∀ j, f j = (a j : Rat) / 60 ∧ (a j).natAbs ≤ 1200) (hx : ∀ j, j < n → x j = (p j : Rat) / z ∧ (p j).natAbs ≤ N) : Rb (sumQ m fun j => f j * x j) (4800 * N) ∧ ∀ j, j < n → Rb (f j * x j) (4800 * N) := by
 have h1 : ∀ j, j < n → (a j * p j).natAbs ≤ 1200 * N := fun j hj => by rw [qax]; exact qbe (hf j).2 (hx j hj).2
 have hzr : (z : Rat) ≠ 0 := by exact_mod_cast hz
 refine ⟨qgc (z := 60 * z) (by omega) ?_ (by omega) (qjU hz (fun j => (hf j).1) fun j hj => (hx j (by omega)).1), fun j hj => qgc (p := a j * p j) (z := 60 * z) (by omega) (by have := h1 j hj; omega) (by omega) ?_⟩
 ·have := qgL (f := fun j => a j * p j) (M := 1200 * N) (k := m) fun i hi => h1 i (by omega)
  have h2 := qaZ (1200 * N) (show m ≤ 4 by omega)
  omega
 ·rw [(hf j).1, (hx j hj).1, qjH hzr]
  push_cast
  rw [qbf, qbf]; grind
theorem qgF {n : Nat} (hn : n ≤ 4) {f : Nat → Nat → Rat} {b x : Nat → Rat} (hf : ∀ i j, Sm (f i j)) (hb : ∀ i, Sm (b i)) (hs : ¬ Sing n f) (hx : qcy n f b x) :
  qb9 n x ∧ ∀ i, ∀ m, m ≤ n → Short (sumQ m fun j => f i j * x j) ∧ ∀ j, j < n → Short (f i j * x j) := by
 obtain ⟨a, ha⟩ := qjO hf
 obtain ⟨c, hc⟩ := qf2 hb
 have h60 : ((60 : Rat)) ≠ 0 := by decide
 have hA : ∀ i j, j < n → castM (fun i j => if j < n then a i j else c i) i j = 60 * f i j := fun i j hj => by
  show ((if j < n then a i j else c i : Int) : Rat) = _
  rw [if_pos hj, (ha i j).1, qbf]
  have h3 : (60 : Rat) * (60 : Rat)⁻¹ = 1 := qbc _ h60
  grind
 have hA2 : ∀ i, castM (fun i j => if j < n then a i j else c i) i n = 60 * b i := fun i => by
  show ((if n < n then a i n else c i : Int) : Rat) = _
  rw [if_neg (qbO n), (hc i).1, qbf]
  have h3 : (60 : Rat) * (60 : Rat)⁻¹ = 1 := qbc _ h60
  grind
 have hs' : ¬ Sing n (castM fun i j => if j < n then a i j else c i) := fun h => hs ((Sing.scale (fun _ => 60) (fun _ _ => h60) fun i _ j hj => hA i j hj).1 h)
 have hx' : qcy n (castM fun i j => if j < n then a i j else c i) (fun i => castM (fun i j => if j < n then a i j else c i) i n) x := fun i hi => by
  show _ = castM (fun i j => if j < n then a i j else c i) i n
  rw [hA2 i, ← hx i hi, ← qcd]
  exact qb0 fun j hj => by rw [hA i j hj]; grind
 obtain ⟨z, p, hz, hzB, hp⟩ := qiy (B := 1200) (by decide) (fun i _ j _ => by
  show (if j < n then a i j else c i : Int).natAbs ≤ 1200
  split
  ·exact (ha i j).2
  ·exact (hc i).2) hs' hx'
 have hbd : 4800 * bd 1200 n < 10 ^ 600 := by
  rcases (show n = 0 ∨ n = 1 ∨ n = 2 ∨ n = 3 ∨ n = 4 by omega) with rfl | rfl | rfl | rfl | rfl <;> decide +kernel
 refine ⟨fun i hi => qdy (qgc hz (hp i hi).1 hzB (hp i hi).2) (by omega), fun i m hm => ?_⟩
 have := qlZ hm hn hz hzB (fun j => ha i j) fun j hj => ⟨(hp j hj).2, (hp j hj).1⟩
 exact ⟨qdy this.1 hbd, fun j hj => qdy (this.2 j hj) hbd⟩
theorem rat_sq {w r : Rat} {W P Z : Int} (hZ : Z ≠ 0) (hw : w = (W : Rat) / 60) (hr : r = (P : Rat) / (60 * Z : Int)) : w * (r * r) = (1 / (216000 * (Z : Rat) * Z)) * ((W * (P * P) : Int) : Rat) := by
 have hz : (Z : Rat) ≠ 0 := by exact_mod_cast hZ
 have h1 : (60 : Rat) * (60 : Rat)⁻¹ = 1 := qbc _ (by decide)
 have h2 : (Z : Rat) * (Z : Rat)⁻¹ = 1 := qbc _ hz
 have hne : (216000 * (Z : Rat) * Z) ≠ 0 := fun h => by
  rcases qbL.1 h with h | h
  ·rcases qbL.1 h with h | h
   ·exact absurd h (by decide)
   ·exact hz h
  ·exact hz h
 have hne2 : (60 * (Z : Rat)) ≠ 0 := fun h => by
  rcases qbL.1 h with h | h
  ·exact absurd h (by decide)
  ·exact hz h
 have h3 := qbc _ hne
 have h4 := qbc _ hne2
 rw [hw, hr]
 push_cast
 rw [qbf, qbf, qbf]
 have e4 : (60 * (Z : Rat))⁻¹ = (60 : Rat)⁻¹ * (Z : Rat)⁻¹ := by
  generalize (60 * (Z : Rat))⁻¹ = u at *
  generalize (60 : Rat)⁻¹ = v at *
  generalize (Z : Rat)⁻¹ = t at *
  clear h3
  grind
 have e3 : (216000 * (Z : Rat) * Z)⁻¹ = (60 : Rat)⁻¹ * (60 : Rat)⁻¹ * (60 : Rat)⁻¹ * (Z : Rat)⁻¹ * (Z : Rat)⁻¹ := by
  have h5 : (216000 * (Z : Rat) * Z) * ((60 : Rat)⁻¹ * (60 : Rat)⁻¹ * (60 : Rat)⁻¹ * (Z : Rat)⁻¹ * (Z : Rat)⁻¹) = 1 := by
   generalize (60 : Rat)⁻¹ = v at *
   generalize (Z : Rat)⁻¹ = t at *
   have e1 : (216000 * (Z : Rat) * Z) * (v * v * v * t * t) = (60 * v) * (60 * v) * (60 * v) * (Z * t) * (Z * t) := by grind
   rw [e1, h1, h2]; grind
  generalize (60 : Rat)⁻¹ * (60 : Rat)⁻¹ * (60 : Rat)⁻¹ * (Z : Rat)⁻¹ * (Z : Rat)⁻¹ = s at *
  generalize (216000 * (Z : Rat) * Z) = d at *
  have : d⁻¹ * (d * s) = s := by rw [← Rat.mul_assoc, Rat.inv_mul_cancel _ hne]; grind
  rw [h5] at this; grind
 rw [e4, e3]; grind
theorem qjz {R n N : Nat} (hR : R ≤ 8) (hn : n ≤ 4) {f : Nat → Nat → Rat} {b w x : Nat → Rat} {a : Nat → Nat → Int} {c v p : Nat → Int} {z : Int} (hz : z ≠ 0) (hzN : z.natAbs ≤ N)
  (ha : ∀ i j, f i j = (a i j : Rat) / 60 ∧ (a i j).natAbs ≤ 1200) (hc : ∀ i, b i = (c i : Rat) / 60 ∧ (c i).natAbs ≤ 1200) (hv : ∀ i, w i = (v i : Rat) / 60 ∧ (v i).natAbs ≤ 1200) (hx : ∀ j, j < n → x j = (p j : Rat) / z ∧ (p j).natAbs ≤ N) : Rb (msR R n f b w x) (9600 * (6000 * N * (6000 * N))) := by
 have hzr : (z : Rat) ≠ 0 := by exact_mod_cast hz
 have hN : 1 ≤ N := by omega
 have hres : ∀ i, resR n f b x i = (((isum (fun j => a i j * p j) n - c i * z : Int)) : Rat) / ((60 * z : Int) : Rat) := fun i => by
  unfold resR
  rw [qjU hz (fun j => (ha i j).1) fun j hj => (hx j hj).1, (hc i).1]
  have h1 : (60 : Rat) * (60 : Rat)⁻¹ = 1 := qbc _ (by decide)
  have h2 : (z : Rat) * (z : Rat)⁻¹ = 1 := qbc _ hzr
  have hne2 : (60 * (z : Rat)) ≠ 0 := fun h => by
   rcases qbL.1 h with h | h
   ·exact absurd h (by decide)
   ·exact hzr h
  have h4 := qbc _ hne2
  push_cast
  rw [qbf, qbf, qbf]
  generalize (60 * (z : Rat))⁻¹ = u at *
  generalize (60 : Rat)⁻¹ = s at *
  generalize (z : Rat)⁻¹ = t at *
  grind
 obtain ⟨P, hP⟩ : ∃ P : Nat → Int, ∀ i, isum (fun j => a i j * p j) n - c i * z = P i := ⟨_, fun _ => rfl⟩
 have hPle : ∀ i, (P i).natAbs ≤ 6000 * N := fun i => by
  have h1 : ∀ j, j < n → (a i j * p j).natAbs ≤ 1200 * N := fun j hj => by rw [qax]; exact qbe (ha i j).2 (hx j hj).2
  have h2 := qgL (f := fun j => a i j * p j) (M := 1200 * N) (k := n) h1
  have h3 : (c i * z).natAbs ≤ 1200 * N := by rw [qax]; exact qbe (hc i).2 hzN
  have h4 := qaZ (1200 * N) hn
  have := hP i
  omega
 have hform : msR R n f b w x = ((isum (fun i => v i * (P i * P i)) R : Int) : Rat) / ((216000 * z * z : Int) : Rat) := by
  have e : msR R n f b w x = sumQ R fun i => (1 / (216000 * (z : Rat) * z)) * ((v i * (P i * P i) : Int) : Rat) := qb0 fun i _ => rat_sq hz (hv i).1 (by rw [hres i, hP i])
  rw [e, qcd, ← qeb]
  push_cast
  rw [qbf, qbf]; grind
 have hzz : (z * z).natAbs ≤ N * N := by rw [qax]; exact qbe hzN hzN
 have hz0 : z * z ≠ 0 := Int.mul_ne_zero hz hz
 have hNN : 6000 * N * (6000 * N) = 36000000 * (N * N) := by
  rw [qau, qbs N 6000 N, ← qau]
 have hPP : ∀ i, (v i * (P i * P i)).natAbs ≤ 1200 * (36000000 * (N * N)) := fun i => by
  rw [qax, qax, ← hNN]
  exact qbe (hv i).2 (qbe (hPle i) (hPle i))
 have hs := qgL (f := fun i => v i * (P i * P i)) (M := 1200 * (36000000 * (N * N))) (k := R) fun i _ => hPP i
 have h8 := qaZ (1200 * (36000000 * (N * N))) hR
 rw [hNN]
 refine qgc (z := 216000 * z * z) ?_ (by omega) ?_ hform
 ·rw [qbC]; omega
 ·rw [qbC]; omega
theorem qkc {R n : Nat} (hR : R ≤ 8) (hn : n ≤ 4) {f : Nat → Nat → Rat} {b w x : Nat → Rat} (hf : ∀ i j, Sm (f i j)) (hb : ∀ i, Sm (b i)) (hw : ∀ i, Sm (w i))
  (hs : ¬ Sing n (fun r c => sumQ R fun i => w i * (f i r * f i c))) (hx : qcy n (fun r c => sumQ R fun i => w i * (f i r * f i c)) (fun r => sumQ R fun i => w i * (f i r * b i)) x) :
  qb9 n x ∧ Short (msR R n f b w x) := by
 obtain ⟨a, ha⟩ := qjO hf
 obtain ⟨c, hc⟩ := qf2 hb
 obtain ⟨v, hv⟩ := qf2 hw
 have h60 : ((60 : Rat)) ≠ 0 := by decide
 have h3 : (60 : Rat) * (60 : Rat)⁻¹ = 1 := qbc _ h60
 have ha' : ∀ i j, (a i j : Rat) = 60 * f i j := fun i j => by rw [(ha i j).1, qbf]; grind
 have hc' : ∀ i, (c i : Rat) = 60 * b i := fun i => by rw [(hc i).1, qbf]; grind
 have hv' : ∀ i, (v i : Rat) = 60 * w i := fun i => by rw [(hv i).1, qbf]; grind
 have key : ∀ (g : Nat → Int) (h : Nat → Rat), (∀ i, (g i : Rat) = 60 * h i) → ∀ r, ((isum (fun i => v i * (a i r * g i)) R : Int) : Rat) = 216000 * sumQ R fun i => w i * (f i r * h i) := fun g h hg r => by
  rw [qeb, ← qcd]
  refine qb0 fun i _ => ?_
  push_cast
  rw [hv' i, ha' i r, hg i]; grind
 obtain ⟨M, hM⟩ : ∃ M : Nat → Nat → Int, M = fun r j => if j < n then isum (fun i => v i * (a i r * a i j)) R else isum (fun i => v i * (a i r * c i)) R := ⟨_, rfl⟩
 have hA : ∀ r j, j < n → castM M r j = 216000 * sumQ R fun i => w i * (f i r * f i j) := fun r j hj => by
  rw [hM]
  show ((if j < n then _ else _ : Int) : Rat) = _
  rw [if_pos hj]; exact key (fun i => a i j) (fun i => f i j) (fun i => ha' i j) r
 have hA2 : ∀ r, castM M r n = 216000 * sumQ R fun i => w i * (f i r * b i) := fun r => by
  rw [hM]
  show ((if n < n then _ else _ : Int) : Rat) = _
  rw [if_neg (qbO n)]; exact key c b hc' r
 have h216 : (216000 : Rat) ≠ 0 := by decide
 have hs' : ¬ Sing n (castM M) := fun h => hs ((Sing.scale (fun _ => 216000) (fun _ _ => h216) fun i _ j hj => hA i j hj).1 h)
 have hx' : qcy n (castM M) (fun i => castM M i n) x := fun i hi => by
  show _ = castM M i n
  have hxi : sumQ n (fun j => (sumQ R fun k => w k * (f k i * f k j)) * x j) = sumQ R fun k => w k * (f k i * b k) := hx i hi
  rw [hA2 i, ← hxi, ← qcd]
  exact qb0 fun j hj => by rw [hA i j hj]; grind
 have hle : ∀ (g : Nat → Int), (∀ i, (g i).natAbs ≤ 1200) → ∀ r, (isum (fun i => v i * (a i r * g i)) R).natAbs ≤ 13824000000 := fun g hg r => by
  have h1 : ∀ i, (v i * (a i r * g i)).natAbs ≤ 1728000000 := fun i => by
   rw [qax, qax]
   exact qbe (hv i).2 (qbe (ha i r).2 (hg i))
  have h2 := qgL (f := fun i => v i * (a i r * g i)) (M := 1728000000) (k := R) fun i _ => h1 i
  omega
 obtain ⟨z, p, hz, hzB, hp⟩ := qiy (B := 13824000000) (by decide) (fun i _ j _ => by
  rw [hM]
  show (if j < n then _ else _ : Int).natAbs ≤ _
  split
  ·exact hle (fun i => a i j) (fun i => (ha i j).2) i
  ·exact hle c (fun i => (hc i).2) i) hs' hx'
 have hbd : bd 13824000000 n < 10 ^ 600 ∧ 9600 * (6000 * bd 13824000000 n * (6000 * bd 13824000000 n)) < 10 ^ 600 := by
  rcases (show n = 0 ∨ n = 1 ∨ n = 2 ∨ n = 3 ∨ n = 4 by omega) with rfl | rfl | rfl | rfl | rfl <;> decide +kernel
 exact ⟨fun i hi => qdy (qgc hz (hp i hi).1 hzB (hp i hi).2) hbd.1, qdy (qjz hR hn hz hzB ha hc hv fun j hj => ⟨(hp j hj).2, (hp j hj).1⟩) hbd.2⟩
theorem qiZ {R n : Nat} (hR : R ≤ 8) (hn : n ≤ 4) {f : Nat → Nat → Rat} {b w y : Nat → Rat} (hf : ∀ i j, Sm (f i j)) (hb : ∀ i, Sm (b i)) (hw : ∀ i, Sm (w i)) (hy : ∀ i, Sm (y i)) : Short (msR R n f b w y) := by
 obtain ⟨a, ha⟩ := qjO hf
 obtain ⟨c, hc⟩ := qf2 hb
 obtain ⟨v, hv⟩ := qf2 hw
 obtain ⟨p, hp⟩ := qf2 hy
 exact qdy (qjz (N := 1200) hR hn (z := 60) (by decide) (by decide) ha hc hv fun j _ => hp j) (by decide +kernel)
end Go.Proofs.YtfminfgabiipjaaGreatDoor
