/- Aa, part 29: Lsc -/
import Derived.Test.YtfminfgabiipjaaGreatDoorAa0
import Derived.Test.YtfminfgabiipjaaGreatDoorAa28
set_option maxRecDepth 100000
set_option maxHeartbeats 16000000
namespace Go.Proofs.YtfminfgabiipjaaGreatDoor
open Go.RowKit
def qh0 (w : World) (t : Tbl) (l : List FT) (e : Ending) (w' : World) : Prop :=
  ((¬ TOk t ∧ e = .returned (.tuple #[.slice none 0 0, .int .i64 60])) ∨
   (TOk t ∧ ¬ FAll l ∧ e = .returned (.tuple #[.slice none 0 0, .int .i64 20])) ∨
   (TOk t ∧ FAll l ∧ ¬ (l.length = t.length ∧ t.length = wid t) ∧ e = .returned (.tuple #[.slice none 0 0, .int .i64 2])) ∨
   (TOk t ∧ FAll l ∧ l.length = t.length ∧ t.length = wid t ∧
     ((Sing t.length (tval t) ∧ e = .returned (.tuple #[.slice none 0 0, .int .i64 7])) ∨
      (¬ Sing t.length (tval t) ∧ ∃ x, qcA t.length (tval t) (lval l) x ∧ Tells t.length x e w')))) ∧ Below w.heap.size w w'
theorem one_list {W : World} {ao : Option Addr} {b off n c : Nat} {l : List FT} {g : Nat} {ty : TypeId} (hg : W.heap[g]? = some (.cells #[.slice ao n c] ty (0, 0))) (hn : l.length = n) (h : FCells W ao b off l) : TCells W (some ⟨g, 0, none⟩) g 0 [l] := by
 refine ⟨fun _ => rfl, fun k hk => ?_⟩
 obtain rfl : k = 0 := by simp at hk; omega
 exact ⟨ao, b, off, c, by rw [show ([l] : Tbl).getD 0 [] = l from rfl, hn]; exact cell_of_row _ _ 0 _ _ _ hg, h⟩
theorem qli {l : List FT} : (∀ k, k < ([l] : Tbl).length → FAll (([l] : Tbl).getD k [])) ↔ FAll l :=
 ⟨fun h => h 0 (by simp), fun h k hk => by
  obtain rfl : k = 0 := by simp at hk; omega
  exact h⟩
def besides (t : Tbl) (l : List FT) (i : Nat) : List FT := t.getD i [] ++ [l.getD i fd0]
theorem qhS (ao : Option Addr) (b off R c : Nat) (t : Tbl) (ao2 : Option Addr) (b2 off2 m c2 : Nat) (l : List FT) (w : World) (hR : t.length = R) (hl : R ≤ 4611686018427387904) (hw : ∀ k, k < R → (t.getD k []).length ≤ 4611686018427387904) (hc : TCells w ao b off t)
  (hm : l.length = m) (hl2 : m ≤ 4611686018427387904) (hc2 : FCells w ao2 b2 off2 l) (hT : HasT w) :
  Calls Tryz.prog 18 #[.slice ao R c, .slice ao2 m c2] w fun e w' => qh0 w t l e w' := by
 obtain ⟨W1, hW1⟩ : ∃ W1, W1 = w.alloc (.cells #[.slice ao2 m c2] 23) := ⟨_, rfl⟩
 have hb1 : Below w.heap.size w W1 := hW1 ▸ qb1 qB qN
 have hr1 : W1.heap[w.heap.size]? = some (.cells #[.slice ao2 m c2] 23 (0, 0)) := by rw [hW1]; exact qM _ _ _ rfl
 have HK := qH (qeh ao b off R c t (some ⟨w.heap.size, 0, none⟩) w.heap.size 0 1 1 [l] W1 hR hl hw (hc.below hb1) rfl (by omega) (fun k hk => by
  obtain rfl : k = 0 := by omega
  show l.length ≤ _
  omega) (one_list hr1 hm (hc2.below hb1)))
 have HC := qH (qA hc (qA hR (qA hc2 (qA hm hT))))
 have HB1 := qH hb1
 clear hR hw hc hm hc2 hb1 hr1 hT
 go_enter Tryz.func18, Tryz.ntmps18
 go_wp2_with fail
 rw [← hW1]
 clear hW1
 refine HK.out.mono ?_
 rintro e w2 ⟨cc, rfl, hcc, hb2⟩
 have HB := qH (HB1.out.trans (hb2.mono HB1.out.size))
 clear hb2
 rcases hcc with ⟨rfl, hT⟩ | ⟨rfl, hT, hL⟩ | ⟨rfl, hT, hL⟩
 ·have HT := qH hT
  clear hT
  go_wp2_with fail
  go_ret2
  exact ⟨qaA ⟨HT.out, rfl⟩, HB.out⟩
 ·have HT := qH (qA hT hL)
  clear hT hL
  go_wp2_with fail
  go_ret2
  exact ⟨qas (qaA ⟨HT.out.1, fun h => HT.out.2 (qli.2 h), rfl⟩), HB.out⟩
 have hL := qli.1 hL
 have hR40 : R ≤ 40 := by have := hT.r2; have := HC.out.2.1; omega
 have hR1 : 1 ≤ R := by have := hT.r1; have := HC.out.2.1; omega
 have hR0i : (0 : Int) < R := by omega
 have haw := HC.out.1.addr (by have := HC.out.2.1; omega)
 subst haw
 obtain ⟨n, hn⟩ : ∃ n, wid t = n := ⟨_, rfl⟩
 have hn10 : n ≤ 10 := by have := hT.c2; omega
 have hn1 : 1 ≤ n := by have := hT.c1; omega
 obtain ⟨ra0, rb0, ro0, rc0, hc0, _⟩ := (HC.out.1.below HB.out).row 0 (by have := HC.out.2.1; omega)
 rw [qbh] at hc0
 have hn' : (t.getD 0 []).length = n := hn
 rw [hn'] at hc0
 have HX := qH (qA hT (qA hL hn))
 clear hT hL hn hn'
 by_cases e1 : m = R
 case neg =>
  have e1b : ((m : Int) != (R : Int)) = true := by rw [bne_iff_ne]; omega
  have He := qH e1
  clear e1
  go_wp2_with fail
  go_ret2
  exact ⟨qas (qas (qaA ⟨HX.out.1, HX.out.2.1, fun h => He.out (by rw [← HC.out.2.2.2.1, ← HC.out.2.1]; exact h.1), rfl⟩)), HB.out⟩
 by_cases e2 : R = n
 case neg =>
  have e1b : ((m : Int) != (R : Int)) = false := by simp [e1]
  have e2b : ((R : Int) != (n : Int)) = true := by rw [bne_iff_ne]; omega
  have He := qH e2
  clear e2 e1
  go_wp2_with fail
  go_ret2
  exact ⟨qas (qas (qaA ⟨HX.out.1, HX.out.2.1, fun h => He.out (by rw [← HX.out.2.2, ← HC.out.2.1]; exact h.2), rfl⟩)), HB.out⟩
 have e1b : ((m : Int) != (R : Int)) = false := by simp [e1]
 subst e2
 have e2b : ((R : Int) != (R : Int)) = false := by simp
 have He := qH e1
 have hmR : (m : Int) ≤ R ∧ (R : Int) ≤ m := by omega
 obtain ⟨hmR1, hmR2⟩ := hmR
 have haw2 := HC.out.2.2.1.addr (by have := HC.out.2.2.2.1; omega)
 subst haw2
 clear e1
 have hmk := qha R (by omega) w2
 obtain ⟨W3, hW3⟩ : ∃ W3, W3 = w2.alloc (.cells (madeCells #[zs0] R) 79) := ⟨_, rfl⟩
 have hm3 := MatPart.made w2 R (R + 1) (fun _ => 0) (fun i => ftop (besides t l i))
 rw [← hW3] at hm3 hmk
 have hs3 : W3.heap.size = w2.heap.size + 1 := by rw [hW3, qab]
 have hb3 : Below w2.heap.size w2 W3 := hW3 ▸ qb1 qB qN
 clear hW3
 obtain ⟨W4, hW4⟩ : ∃ W4, W4 = W3.alloc (.cells #[.slice (some ⟨w2.heap.size, 0, none⟩) R R] 92) := ⟨_, rfl⟩
 have hb4 : Below W3.heap.size W3 W4 := hW4 ▸ qb1 qB qN
 have hr4 : W4.heap[W3.heap.size]? = some (.cells #[.slice (some ⟨w2.heap.size, 0, none⟩) R R] 92 (0, 0)) := by rw [hW4]; exact qM _ _ _ rfl
 have H4 := qH (qA (hm3.below hb4) (qA hr4 (hb3.trans (hb4.mono hb3.size))))
 have Hs3 := qH hs3
 clear hm3 hb3 hb4 hr4 hs3
 go_wp2_with fail
 rw [← hW4]
 go_loopw [37] (fun x37 W => ∃ (k : Nat) (gs : Nat → Nat), k ≤ R ∧ x37 = .int .i64 k ∧ Hid (MatPart W w2.heap.size R k (R + 1) gs (fun i => ftop (besides t l i))) ∧ Hid (W.heap[W3.heap.size]? = some (.cells #[.slice (some ⟨w2.heap.size, 0, none⟩) R R] 92 (0, 0))) ∧ Hid (Below w2.heap.size w2 W)) (fun x37 _ => R - (intOf x37).toNat)
 case atStart => exact ⟨0, fun _ => 0, qar _, rfl, qH H4.out.1, qH H4.out.2.1, qH H4.out.2.2⟩
 case round =>
  clear hmk hW4
  obtain ⟨k, gs, hk, rfl, hM, hr, hB⟩ := hrel
  have hBw := HB.out.trans (hB.out.mono HB.out.size)
  by_cases hkR : k < R
  ·have hki : (k : Int) < R := by omega
   have hkm : (k : Int) < m := by omega
   have hkt : k < t.length := by have := HC.out.2.1; omega
   have hkl : k < l.length := by have := HC.out.2.2.2.1; omega
   obtain ⟨ra, rb, ro, rc, hck, hfk⟩ := (HC.out.1.below hBw).row k hkt
   have hrk := HX.out.1.rows k hkt
   rw [HX.out.2.2] at hrk
   rw [hrk.1] at hck
   obtain ⟨d0, d1⟩ := (HC.out.2.2.1.below hBw).cell k hkl
   have hb2w : b2 < w2.heap.size := by
    obtain ⟨x0, _⟩ := (HC.out.2.2.1.below HB.out).cell k hkl
    exact qag w2 _ x0
   have hb2l := qag wr _ d0
   obtain ⟨N, hN⟩ : ∃ N, (l.getD k fd0).1 = N := ⟨_, rfl⟩
   obtain ⟨D, hD⟩ : ∃ D, (l.getD k fd0).2 = D := ⟨_, rfl⟩
   have hND : l.getD k fd0 = (N, D) := by rw [← hN, ← hD]
   have hok := HX.out.2.1 k hkl
   rw [hND] at hok
   rw [hN] at d0
   rw [hD] at d1
   have C0 : ∀ W, wr.grownBy W (some w2.heap.size) → W.cell? ⟨W3.heap.size, 0, none⟩ = some (.slice (some ⟨w2.heap.size, 0, none⟩) R R) := fun W h => qdf h hr.out (by have := Hs3.out; omega) 0
   have C1 : ∀ W, wr.grownBy W (some w2.heap.size) → W.cell? ⟨b2, off2 + k * 2, none⟩ = some (.string N) := fun W h => (qdi h (p := ⟨b2, off2 + k * 2, none⟩) hb2l (Nat.ne_of_lt hb2w)).trans d0
   have C2 : ∀ W, wr.grownBy W (some w2.heap.size) → W.cell? ⟨b2, off2 + k * 2 + 1, none⟩ = some (.string D) := fun W h => (qdi h (p := ⟨b2, off2 + k * 2 + 1, none⟩) hb2l (Nat.ne_of_lt hb2w)).trans d1
   have HBS := qH (fun W (h : Below wr.heap.size wr W) => qgb ra rb ro R rc (t.getD k []) (N, D) W hrk.1 (by omega) (by omega) (hfk.below h))
   have HI := qH (fun W g (h : FCells W (some ⟨g, 0, none⟩) g 0 (t.getD k [] ++ [(N, D)])) => qdL (c := R + 1) (show (t.getD k [] ++ [(N, D)]).length = R + 1 by rw [qaj, hrk.1]; rfl) (show R + 1 ≤ 64 by omega) h (FAll.snoc hrk.2 hok))
   have HE := qH (show besides t l k = t.getD k [] ++ [(N, D)] by unfold besides; rw [hND])
   have hst : Below wr.heap.size wr wr := Below.refl _ _
   have hstD : Below wr.heap.size wr wr.drew := hst.drew
   clear hrk hfk hBw hb2w hb2l hN hD hND hok d0 d1
   go_wp2_with fail
   go_region_held3 (fun W => wr.grownBy W (some w2.heap.size)) (first | with_reducible exact qcP _ _ | with_reducible exact qcd _ hstD | with_reducible exact qcd _ HB5 | with_reducible exact qcd _ HB6 | exact qca (qcd _ HB6) (least.qcb _ _ _ _)) (first | (go_at_call 55; refine (HBS.out _ hstD).mono ?_; rintro e w5 ⟨g5, rfl, hb5, hf5⟩; have HB5 : Below wr.heap.size wr w5 := bjoin hstD hb5; have HF5 := qH hf5; clear hb5 hf5) | (go_at_call 50; refine (HI.out _ _ HF5.out).mono ?_; rintro e w6 ⟨g6, v6, rfl, _, hb6, hm6, hg6⟩; have HB6 : Below wr.heap.size wr w6 := bjoin HB5 hb6; obtain ⟨q0, q1⟩ := (hM.out.below HB6).at hkR; have HG6 := qH hg6; obtain ⟨s6, _, _, u6, t6, _, rfl, _, _⟩ := hm6; clear hb6 hg6))
   all_goals go_wp2_with fail
   all_goals go_roundw
   all_goals first
    | exact ⟨k + 1, _, hkR, by go_num, qH ((hM.out.below HB6).set hkR (by show qcx _ _ _ (ftop (besides t l k)); rw [HE.out]; exact HG6.out)), qH ((Below.heap_setCell _ _ _ _ (by have := Hs3.out; show W3.heap.size ≠ w2.heap.size; omega)).trans ((HB6.block _ (qG hr.out).1).trans hr.out)), qH ((hB.out.trans (HB6.mono hB.out.size)).setCell (p := ⟨w2.heap.size, k, none⟩) qN _)⟩
    | (simp [intOf]; omega)
  ·obtain rfl : k = R := by omega
   have hMd := hM.out.done
   have hfb : ∀ i, i < k → (besides t l i).length = k + 1 ∧ FAll (besides t l i) := fun i hi => by
    have h := HX.out.1.rows i (by have := HC.out.2.1; omega)
    rw [HX.out.2.2] at h
    exact ⟨by unfold besides; rw [qaj, h.1]; rfl, h.2.snoc (HX.out.2.1 i (by have := HC.out.2.2.2.1; omega))⟩
   have hsv := qi8 w2.heap.size k 4356 gs (fun i => ftop (besides t l i)) wr (by omega) hn10 (by omega) (by omega) hMd (fun i hi => by
    obtain ⟨ps, _, h, _⟩ := hMd.rows i hi
    exact (qG h.1).1) (fun i hi j hj => (qdg (hfb i hi).2 (m := 63) (by have := (hfb i hi).1; omega) (by have := (hfb i hi).1; omega)).mono (by omega)) (HC.out.2.2.2.2.below hBw)
   have HS := qH hsv
   have HFB := qH hfb
   have bx := cell_of_row _ _ 0 _ _ _ hr.out
   clear hMd hsv hfb hBw
   go_wp2_with fail
   refine HS.out.mono ?_
   rintro e w7 ⟨hg7, h7⟩
   have hbb := qez HB.out (qca (qcd _ hB.out) hg7) HB.out.size
   have hA : ∀ i, i < k → ∀ j, j < k → castM (fun i => ftop (besides t l i)) i j = (flcd (besides t l i) : Rat) * tval t i j := fun i hi j hj => by
    have h := HX.out.1.rows i (by have := HC.out.2.1; omega)
    rw [HX.out.2.2] at h
    show ((ftop (besides t l i) j : Int) : Rat) = _
    rw [qec (HFB.out i hi).2 (by have := (HFB.out i hi).1; omega)]
    congr 1
    exact qfu (by omega)
   have hAb : ∀ i, i < k → castM (fun i => ftop (besides t l i)) i k = (flcd (besides t l i) : Rat) * lval l i := fun i hi => by
    have h := HX.out.1.rows i (by have := HC.out.2.1; omega)
    rw [HX.out.2.2] at h
    show ((ftop (besides t l i) k : Int) : Rat) = _
    rw [qec (HFB.out i hi).2 (by have := (HFB.out i hi).1; omega)]
    congr 1
    have := qft (l := t.getD i []) (x := l.getD i fd0)
    rw [h.1] at this
    exact this
   have hne : ∀ i, i < k → (flcd (besides t l i) : Rat) ≠ 0 := fun i hi => qlF (HFB.out i hi).2
   have hsg := Sing.scale (fun i => (flcd (besides t l i) : Rat)) hne hA
   have hsol : ∀ x, qcA k (castM (fun i => ftop (besides t l i))) (fun i => castM (fun i => ftop (besides t l i)) i k) x → qcA k (tval t) (lval l) x := fun x hx => qcA.scale (fun i => (flcd (besides t l i) : Rat)) hne hA hAb hx
   have HZ := qH (qA hbb (qA hsg hsol))
   clear hbb hA hAb hne hsg hsol hg7
   have fin : ∀ e, ((Sing k (castM fun i => ftop (besides t l i)) ∧ e = .returned (.tuple #[.slice none 0 0, .int .i64 7])) ∨
  (¬ Sing k (castM fun i => ftop (besides t l i)) ∧ ∃ x, qcA k (castM fun i => ftop (besides t l i)) (fun i => castM (fun i => ftop (besides t l i)) i k) x ∧ Tells k x e w7)) → qh0 w t l e w7 := fun e h => by
    refine ⟨qas (qas (qas ⟨HX.out.1, HX.out.2.1, by rw [HC.out.2.2.2.1, HC.out.2.1, He.out], by rw [HX.out.2.2, HC.out.2.1], ?_⟩)), HZ.out.1⟩
    rw [HC.out.2.1]
    rcases h with ⟨h, e⟩ | ⟨h, x, hx, ht⟩
    ·exact qaA ⟨HZ.out.2.1.1 h, e⟩
    ·exact qas ⟨fun hs => h (HZ.out.2.1.2 hs), x, HZ.out.2.2 x hx, ht⟩
   have FIN := qH fin
   have h7' := h7
   rcases h7 with ⟨_, rfl⟩ | ⟨_, x, _, ⟨_, g, rfl, _⟩ | ⟨_, rfl⟩⟩
   all_goals
    have H7 := qH (FIN.out _ h7')
    clear h7' fin
    go_wp2_with fail
    go_ret2
    exact H7.out
end Go.Proofs.YtfminfgabiipjaaGreatDoor
