/- Aa, part 25: Cmb -/
import Derived.Test.YtfminfgabiipjaaGreatDoorAa0
import Derived.Test.YtfminfgabiipjaaGreatDoorAa24
set_option maxRecDepth 100000
set_option maxHeartbeats 16000000
namespace Go.Proofs.YtfminfgabiipjaaGreatDoor
open Go.RowKit
theorem qgL {W : World} {g : Nat} {t : TypeId} (h : W.heap[g]? = some (.cells #[.slice none 0 0, .bool false] t (0, 0))) (a : Option Addr) (n c : Nat) (b : Bool) :
  ((W.setCell ⟨g, 0, none⟩ (.slice a n c)).setCell ⟨g, 1, none⟩ (.bool b)).heap[g]? = some (.cells #[.slice a n c, .bool b] t (0, 0)) ∧
  (∀ k, k ≠ g → ((W.setCell ⟨g, 0, none⟩ (.slice a n c)).setCell ⟨g, 1, none⟩ (.bool b)).heap[k]? = W.heap[k]?) ∧
  (∀ m b0 z, IntAt W (.agg #[m, .bool b0]) z → IntAt ((W.setCell ⟨g, 0, none⟩ (.slice a n c)).setCell ⟨g, 1, none⟩ (.bool b)) (.agg #[m, .bool b0]) z) :=
 ⟨least.qdp h a n c b, fun _k hk => (Below.heap_setCell _ _ _ _ hk).trans (Below.heap_setCell _ _ _ _ hk), fun _ _ _ hi => least.qdo hi h a n c b⟩
def LTwo (W2 W : World) (g3 g4 : Nat) (v3 : Option Addr × Nat × Nat × Bool) (v4 : Option Addr × Nat × Nat × Bool) (z3 z4 : Int) : Prop :=
 W.heap[g3]? = some (.cells #[.slice v3.1 v3.2.1 v3.2.2.1, .bool v3.2.2.2] 105 (0, 0)) ∧ W.heap[g4]? = some (.cells #[.slice v4.1 v4.2.1 v4.2.2.1, .bool v4.2.2.2] 105 (0, 0)) ∧
  IntAt W (.agg #[.slice v3.1 v3.2.1 v3.2.2.1, .bool v3.2.2.2]) z3 ∧ IntAt W (.agg #[.slice v4.1 v4.2.1 v4.2.2.1, .bool v4.2.2.2]) z4 ∧ Below W2.heap.size W2 W ∧ W2.heap.size ≤ g3 ∧ W2.heap.size ≤ g4
section
variable {W2 W : World} {a3 : Option Addr} {n3 c3 : Nat} {b3 : Bool} {a4 : Option Addr} {n4 c4 : Nat} {b4 : Bool} {z3 z4 : Int}
theorem ltwo_aa (h : IntAt W (.agg #[.slice a3 n3 c3, .bool b3]) z3 ∧ IntAt W (.agg #[.slice a4 n4 c4, .bool b4]) z4) (hb : Below W2.heap.size W2 W) :
  LTwo W2 ((W.alloc (.cells #[.slice a3 n3 c3, .bool b3] 105)).alloc (.cells #[.slice a4 n4 c4, .bool b4] 105)) W.heap.size (W.heap.size + 1) (a3, n3, c3, b3) (a4, n4, c4, b4) z3 z4 :=
 have k := qb1 (qb1 (Below.refl W.heap.size W) qN) qN
 ⟨(qL _ _ _ (by simp only [qab]; omega)).trans (qM _ _ _ rfl), qM _ _ _ (by simp only [qab]), h.1.below k, h.2.below k, qb1 (qb1 hb qN) qN, hb.size, qah hb.size⟩
theorem ltwo_bb (h : IntAt W (.agg #[.slice a3 n3 c3, .bool b3]) z3 ∧ IntAt W (.agg #[.slice a4 n4 c4, .bool b4]) z4) (hb : Below W2.heap.size W2 W) :
  LTwo W2 ((W.alloc (.cells #[.slice a4 n4 c4, .bool b4] 105)).alloc (.cells #[.slice a3 n3 c3, .bool b3] 105)) (W.heap.size + 1) W.heap.size (a3, n3, c3, b3) (a4, n4, c4, b4) z3 z4 :=
 have k := qb1 (qb1 (Below.refl W.heap.size W) qN) qN
 ⟨qM _ _ _ (by simp only [qab]), (qL _ _ _ (by simp only [qab]; omega)).trans (qM _ _ _ rfl), h.1.below k, h.2.below k, qb1 (qb1 hb qN) qN, qah hb.size, hb.size⟩
theorem ltwo_pa {g : Nat} (h : IntAt W (.agg #[.slice a3 n3 c3, .bool b3]) z3 ∧ IntAt W (.agg #[.slice a4 n4 c4, .bool b4]) z4) (hb : Below W2.heap.size W2 W) (hg : W2.heap.size ≤ g) (hz : W.heap[g]? = some (.cells #[.slice none 0 0, .bool false] 105 (0, 0))) :
  LTwo W2 (((W.setCell ⟨g, 0, none⟩ (.slice a3 n3 c3)).setCell ⟨g, 1, none⟩ (.bool b3)).alloc (.cells #[.slice a4 n4 c4, .bool b4] 105)) g W.heap.size (a3, n3, c3, b3) (a4, n4, c4, b4) z3 z4 := by
 obtain ⟨p1, p2, p3⟩ := qgL hz a3 n3 c3 b3
 have lt := (qG hz).1
 have k : ∀ V : World, Below V.heap.size V (V.alloc (.cells #[.slice a4 n4 c4, .bool b4] 105)) := fun V => qb1 qB qN
 exact ⟨(qL _ _ _ (by simp only [qbo]; exact lt)).trans p1, qM _ _ _ (by simp only [qbo]), (p3 _ _ _ h.1).below (k _), (p3 _ _ _ h.2).below (k _), qb1 ((hb.setCell (by exact hg) _).setCell (by exact hg) _) qN, hg, hb.size⟩
theorem ltwo_pb {g : Nat} (h : IntAt W (.agg #[.slice a3 n3 c3, .bool b3]) z3 ∧ IntAt W (.agg #[.slice a4 n4 c4, .bool b4]) z4) (hb : Below W2.heap.size W2 W) (hg : W2.heap.size ≤ g) (hz : W.heap[g]? = some (.cells #[.slice none 0 0, .bool false] 105 (0, 0))) :
  LTwo W2 (((W.setCell ⟨g, 0, none⟩ (.slice a4 n4 c4)).setCell ⟨g, 1, none⟩ (.bool b4)).alloc (.cells #[.slice a3 n3 c3, .bool b3] 105)) W.heap.size g (a3, n3, c3, b3) (a4, n4, c4, b4) z3 z4 := by
 obtain ⟨p1, p2, p3⟩ := qgL hz a4 n4 c4 b4
 have lt := (qG hz).1
 have k : ∀ V : World, Below V.heap.size V (V.alloc (.cells #[.slice a3 n3 c3, .bool b3] 105)) := fun V => qb1 qB qN
 exact ⟨qM _ _ _ (by simp only [qbo]), (qL _ _ _ (by simp only [qbo]; exact lt)).trans p1, (p3 _ _ _ h.1).below (k _), (p3 _ _ _ h.2).below (k _), qb1 ((hb.setCell (by exact hg) _).setCell (by exact hg) _) qN, hb.size, hg⟩
theorem ltwo_pp {g g' : Nat} (h : IntAt W (.agg #[.slice a3 n3 c3, .bool b3]) z3 ∧ IntAt W (.agg #[.slice a4 n4 c4, .bool b4]) z4) (hb : Below W2.heap.size W2 W) (hg : W2.heap.size ≤ g) (hg' : W2.heap.size ≤ g') (hne : g ≠ g') (hz : W.heap[g]? = some (.cells #[.slice none 0 0, .bool false] 105 (0, 0))) (hz' : W.heap[g']? = some (.cells #[.slice none 0 0, .bool false] 105 (0, 0))) :
  LTwo W2 ((((W.setCell ⟨g, 0, none⟩ (.slice a3 n3 c3)).setCell ⟨g, 1, none⟩ (.bool b3)).setCell ⟨g', 0, none⟩ (.slice a4 n4 c4)).setCell ⟨g', 1, none⟩ (.bool b4)) g g' (a3, n3, c3, b3) (a4, n4, c4, b4) z3 z4 := by
 obtain ⟨p1, p2, p3⟩ := qgL hz a3 n3 c3 b3
 obtain ⟨q1, q2, q3⟩ := qgL ((p2 g' (Ne.symm hne)).trans hz') a4 n4 c4 b4
 exact ⟨(q2 g hne).trans p1, q1, q3 _ _ _ (p3 _ _ _ h.1), q3 _ _ _ (p3 _ _ _ h.2), (((hb.setCell (by exact hg) _).setCell (by exact hg) _).setCell (by exact hg') _).setCell (by exact hg') _, hg, hg'⟩
end
theorem qdD {W : World} {ps : List (Value × Bool)} {zs : Nat → Int} (h : qcH W ps zs) {k : Nat} (hk : k < ps.length) : ∃ (a : Option Addr) (n c : Nat) (b : Bool), ps.getD k (zs0, false) = (.slice a n c, b) ∧ IntAt W (.agg #[.slice a n c, .bool b]) (zs k) := by
 obtain ⟨h1, h2⟩ := h k hk
 have hg := h2
 obtain ⟨a, _, _, c, n, _, e, _, _⟩ := h2
 refine ⟨a, n, c, decide (zs k < 0), Prod.ext e h1, _, rfl, e ▸ hg⟩
theorem qdf {a b : World} {g k : Nat} {cs : Array Value} {t : TypeId} (h : a.grownBy b (some g)) (hg : a.heap[k]? = some (.cells cs t (0, 0))) (hne : k ≠ g) (i : Nat) : b.cell? ⟨k, i, none⟩ = cs[i]? :=
 cell_of_row _ _ i _ _ _ ((h.block _ (qG hg).1 (fun e => hne (qan e))).trans hg)
theorem qcd {a b : World} (g : Nat) (h : Below a.heap.size a b) : a.grownBy b (some g) := qdh (qcP a _) h
def qhy (W : World) (b n : Nat) (ps : List (Value × Bool)) : Prop := ∀ k, k < n → W.cell? ⟨b, k * 2, none⟩ = some (ps.getD k (zs0, false)).1 ∧ W.cell? ⟨b, k * 2 + 1, none⟩ = some (.bool (ps.getD k (zs0, false)).2)
theorem qhy.below {W W' : World} {b n : Nat} {ps : List (Value × Bool)} (h : qhy W b n ps) (hb : Below W.heap.size W W') : qhy W' b n ps :=
 fun k hk => ⟨(hb.cell (qag W _ (h k hk).1)).trans (h k hk).1, (hb.cell (qag W _ (h k hk).2)).trans (h k hk).2⟩
theorem qkn {W : World} {g n j : Nat} {rs : List (Value × Bool)} {z : Nat → Int} {a : Option Addr} {m c : Nat} {b : Bool} (hI : IRow W g n rs) (hP : qcH W rs z) (hj : rs.length = j) (hjn : j < n) (hi : IntAt W (.agg #[.slice a m c, .bool b]) (z j)) :
  IRow ((W.setCell ⟨g, j * 2, none⟩ (.slice a m c)).setCell ⟨g, j * 2 + 1, none⟩ (.bool b)) g n (rs ++ [(.slice a m c, b)]) ∧ qcH ((W.setCell ⟨g, j * 2, none⟩ (.slice a m c)).setCell ⟨g, j * 2 + 1, none⟩ (.bool b)) (rs ++ [(.slice a m c, b)]) z := by
 subst hj
 obtain ⟨v, hv, hg⟩ := hi
 have e1 : v = .slice a m c := by simp only [qba, qbg, qa5] at hv; exact hv.1.symm
 have e2 : b = decide (z rs.length < 0) := by simp only [qba, qbg, qa5, qbF] at hv; exact hv.2.1
 subst e1
 refine ⟨hI.set hjn _ b (qjz hg), ?_⟩
 rw [e2]
 exact (hP.snoc hg).keep (qca (least.qcb W g (rs.length * 2) _) (least.qcb _ g (rs.length * 2 + 1) _)) hI.1 hI.nope
theorem qiA (br bp n cr cp cc : Nat) (ps qs : List (Value × Bool)) (zs ys : Nat → Int) (K : Nat) (hK : K ≤ 34359738368) (v0 : Value) (z0 : Int) (w : World) (hn : n ≤ 64) (hc : cc < n) (hps : ps.length = n) (hqs : qs.length = n) (hcr : qhy w br n ps) (hcp : qhy w bp n qs) (hz : qcH w ps zs) (hy : qcH w qs ys) (hfz : ∀ k, k < n → Fit (zs k).natAbs K) (hfy : ∀ k, k < n → Fit (ys k).natAbs K) (h0 : IntAt w v0 z0) (hf0 : Fit z0.natAbs K) (hz0 : z0 ≠ 0) :
  Calls Tryz.prog 109 #[.slice (some ⟨br, 0, none⟩) n cr, .slice (some ⟨bp, 0, none⟩) n cp, .int .i64 cc, v0] w fun e w' => ∃ g rs, e = .returned (.slice (some ⟨g, 0, none⟩) n n) ∧ w.heap.size ≤ g ∧ Below w.heap.size w w' ∧ rs.length = n ∧ IRow w' g n rs ∧ qcH w' rs (fun j => (ys cc * zs j - zs cc * ys j).tdiv z0) := by
 obtain ⟨a0, n0, c0, b0, rfl⟩ := least.qb8 h0
 obtain ⟨W1, hW1⟩ : ∃ W1, W1 = w.alloc (.cells #[.slice a0 n0 c0, .bool b0] 105) := ⟨_, rfl⟩
 have hs1 : W1.heap.size = w.heap.size + 1 := by rw [hW1, qab]
 have hmk := qg9 n (by omega) W1
 rw [hs1] at hmk
 have hb1 : Below w.heap.size w W1 := hW1 ▸ qb1 qB qN
 have hb2 := qb1 (o := .cells (madeCells #[zs0, .bool false] (n * 2)) 105) hb1 qN
 have hi2 := IRow.made W1 n
 rw [hs1] at hi2
 have hr0 : W1.heap[w.heap.size]? = some (.cells #[.slice a0 n0 c0, .bool b0] 105 (0, 0)) := by rw [hW1]; exact qM _ _ _ rfl
 have hr2 : (W1.alloc (.cells (madeCells #[zs0, .bool false] (n * 2)) 105)).heap[w.heap.size]? = some (.cells #[.slice a0 n0 c0, .bool b0] 105 (0, 0)) := (qL _ _ _ (by omega)).trans hr0
 have hci : (cc : Int) < n := by omega
 have H2 := qH (qA hb2 (qA hi2 hr2))
 have HC := qH (qA hcr (qA hcp (qA hz (qA hy (qA hfz (qA hfy (qA h0 (qA hf0 (qA hps hqs)))))))))
 have hfi := qfD
 clear hcr hcp hz hy hfz hfy h0 hf0 hb1 hb2 hi2 hr0 hr2
 go_enter Tryz.func109, Tryz.ntmps109
 go_wp2_with fail
 rw [← hW1]
 rw [hmk]
 clear hW1 hmk
 go_wp2_with fail
 go_loopw [18] (fun x18 W => ∃ (j : Nat) (rs : List (Value × Bool)), j ≤ n ∧ x18 = .int .i64 j ∧ Hid (rs.length = j ∧ IRow W (w.heap.size + 1) n rs ∧ qcH W rs (fun j => (ys cc * zs j - zs cc * ys j).tdiv z0) ∧ W.heap[w.heap.size]? = some (.cells #[.slice a0 n0 c0, .bool b0] 105 (0, 0))) ∧ Hid (Below w.heap.size w W)) (fun x18 _ => n - (intOf x18).toNat)
 case atStart => exact ⟨0, [], qar _, rfl, qH ⟨rfl, H2.out.2.1, (fun i hi => absurd hi (by simp)), H2.out.2.2⟩, qH H2.out.1⟩
 case round =>
  obtain ⟨j, rs, hj, rfl, hI, hB⟩ := hrel
  by_cases hjn : j < n
  ·have hji : (j : Int) < n := by omega
   obtain ⟨a1, n1, c1, b1, e1, i1⟩ := qdD (HC.out.2.2.2.1.below hB.out) (k := cc) (by have := HC.out.2.2.2.2.2.2.2.2.2; omega)
   obtain ⟨a2, n2, c2, b2, e2, i2⟩ := qdD (HC.out.2.2.1.below hB.out) (k := j) (by have := HC.out.2.2.2.2.2.2.2.2.1; omega)
   obtain ⟨a5, n5, c5, b5, e5, i5⟩ := qdD (HC.out.2.2.1.below hB.out) (k := cc) (by have := HC.out.2.2.2.2.2.2.2.2.1; omega)
   obtain ⟨a6, n6, c6, b6, e6, i6⟩ := qdD (HC.out.2.2.2.1.below hB.out) (k := j) (by have := HC.out.2.2.2.2.2.2.2.2.2; omega)
   have k1 := (HC.out.2.1.below hB.out) cc hc
   have k2 := (HC.out.1.below hB.out) j hjn
   have k5 := (HC.out.1.below hB.out) cc hc
   have k6 := (HC.out.2.1.below hB.out) j hjn
   rw [e1] at k1
   rw [e2] at k2
   rw [e5] at k5
   rw [e6] at k6
   have C10 : ∀ W, Below wr.heap.size wr W → W.cell? ⟨bp, cc * 2, none⟩ = some (.slice a1 n1 c1) := fun W h => (h.cell (qag wr _ k1.1)).trans k1.1
   have C11 : ∀ W, Below wr.heap.size wr W → W.cell? ⟨bp, cc * 2 + 1, none⟩ = some (.bool b1) := fun W h => (h.cell (qag wr _ k1.2)).trans k1.2
   have C20 : ∀ W, Below wr.heap.size wr W → W.cell? ⟨br, j * 2, none⟩ = some (.slice a2 n2 c2) := fun W h => (h.cell (qag wr _ k2.1)).trans k2.1
   have C21 : ∀ W, Below wr.heap.size wr W → W.cell? ⟨br, j * 2 + 1, none⟩ = some (.bool b2) := fun W h => (h.cell (qag wr _ k2.2)).trans k2.2
   have C50 : ∀ W, Below wr.heap.size wr W → W.cell? ⟨br, cc * 2, none⟩ = some (.slice a5 n5 c5) := fun W h => (h.cell (qag wr _ k5.1)).trans k5.1
   have C51 : ∀ W, Below wr.heap.size wr W → W.cell? ⟨br, cc * 2 + 1, none⟩ = some (.bool b5) := fun W h => (h.cell (qag wr _ k5.2)).trans k5.2
   have C60 : ∀ W, Below wr.heap.size wr W → W.cell? ⟨bp, j * 2, none⟩ = some (.slice a6 n6 c6) := fun W h => (h.cell (qag wr _ k6.1)).trans k6.1
   have C61 : ∀ W, Below wr.heap.size wr W → W.cell? ⟨bp, j * 2 + 1, none⟩ = some (.bool b6) := fun W h => (h.cell (qag wr _ k6.2)).trans k6.2
   have HN1 := qH (fun W (h : Below wr.heap.size wr W) => least.qcY (ys cc) (zs j) K K (by omega) _ _ W (i1.below h) (i2.below h) (HC.out.2.2.2.2.2.1 cc hc) (HC.out.2.2.2.2.1 j hjn))
   have HN2 := qH (fun W (h : Below wr.heap.size wr W) => least.qcY (zs cc) (ys j) K K (by omega) _ _ W (i5.below h) (i6.below h) (HC.out.2.2.2.2.1 cc hc) (HC.out.2.2.2.2.2.1 j hjn))
   clear k1 k2 k5 k6 e1 e2 e5 e6 i1 i2 i5 i6
   have hst : Below wr.heap.size wr wr := Below.refl _ _
   have hstD : Below wr.heap.size wr wr.drew := hst.drew
   have hdr2 : wr.drew.heap.size = wr.heap.size := rfl
   have hdr3 : ∀ W : World, W.drew.heap.size = W.heap.size := fun _ => rfl
   go_wp2_with fail
   go_cut [11, 12] (fun x11 x12 W => ∃ (g3 g4 : Nat) (a3 : Option Addr) (n3 c3 : Nat) (b3 : Bool) (a4 : Option Addr) (n4 c4 : Nat) (b4 : Bool), x11 = .pointer (some ⟨g3, 0, none⟩) ∧ x12 = .pointer (some ⟨g4, 0, none⟩) ∧ LTwo wr W g3 g4 (a3, n3, c3, b3) (a4, n4, c4, b4) (ys cc * zs j) (zs cc * ys j))
   case first =>
    go_region_held3 (fun W => Below wr.heap.size wr W) (first | with_reducible exact hst | with_reducible exact hstD | with_reducible exact HB4 | with_reducible exact HB3 | ((repeat (first | refine Below.setCell ?_ (by first | exact qaf _ | exact HB3.size | exact HB4.size | exact qah qN | exact qah HB3.size | exact qah HB4.size) _ | refine qb1 ?_ qN | refine Below.drew ?_)); first | exact HB4 | exact HB3 | exact hst)) (first | (go_at_call_of 69 (Value.agg #[.slice a1 n1 c1, .bool b1]); refine (HN1.out _ (by ((repeat (first | refine Below.setCell ?_ (by first | exact qaf _ | exact HB3.size | exact HB4.size | exact qah qN | exact qah HB3.size | exact qah HB4.size) _ | refine qb1 ?_ qN | refine Below.drew ?_)); first | exact hst))).mono ?_; rintro e w3 ⟨p3, rfl, hb3, hp3⟩; have HB3 : Below wr.heap.size wr w3 := bjoin (by ((repeat (first | refine Below.setCell ?_ (by first | exact qaf _ | exact HB3.size | exact HB4.size | exact qah qN | exact qah HB3.size | exact qah HB4.size) _ | refine qb1 ?_ qN | refine Below.drew ?_)); first | exact hst)) hb3; obtain ⟨a3, n3, c3, b3, rfl⟩ := least.qb8 hp3; have HP3 := qH hp3; obtain ⟨k3, k3f⟩ := bcell hb3; have Z3 := qH (zkeep hb3); have s3 : _ ≤ _ := hb3.size; (try simp only [qab, hdr2, hdr3] at s3); (try have q3 : wr.heap.size < w3.heap.size := by omega); (try have r3 : wr.heap.size + 1 < w3.heap.size := by omega); clear hb3 hp3) | (go_at_call_of 69 (Value.agg #[.slice a5 n5 c5, .bool b5]); refine (HN2.out _ (by ((repeat (first | refine Below.setCell ?_ (by first | exact qaf _ | exact HB3.size | exact HB4.size | exact qah qN | exact qah HB3.size | exact qah HB4.size) _ | refine qb1 ?_ qN | refine Below.drew ?_)); first | exact HB3))).mono ?_; rintro e w4 ⟨p4, rfl, hb4, hp4⟩; have HB4 : Below wr.heap.size wr w4 := bjoin (by ((repeat (first | refine Below.setCell ?_ (by first | exact qaf _ | exact HB3.size | exact HB4.size | exact qah qN | exact qah HB3.size | exact qah HB4.size) _ | refine qb1 ?_ qN | refine Below.drew ?_)); first | exact HB3)) hb4; obtain ⟨a4, n4, c4, b4, rfl⟩ := least.qb8 hp4; have HP4 := qH (qA (show IntAt w4 _ _ from (by first | exact HP3.out.below hb4 | exact (HP3.out.below (qb1 qB qN)).below hb4 | exact (HP3.out.below (qb1 (qb1 qB qN) qN)).below hb4)) hp4); obtain ⟨k4, k4f⟩ := bcell hb4; have Z4 := qH (zkeep hb4); have s4 : _ ≤ _ := hb4.size; (try simp only [qab] at s4); (try have q4 : wr.heap.size < w4.heap.size := by omega); (try have r4 : wr.heap.size + 1 < w4.heap.size := by omega); (try have t4 : w3.heap.size < w4.heap.size := by omega); (try have u4 : w3.heap.size + 1 < w4.heap.size := by omega); clear hb4 hp4))
    all_goals go_wp2_with fail
    all_goals go_meet
    all_goals refine ⟨_, _, a3, n3, c3, b3, a4, n4, c4, b4, rfl, rfl, ?_⟩
    all_goals first
     | with_reducible exact ltwo_aa HP4.out HB4
     | with_reducible exact ltwo_bb HP4.out HB4
     | (with_reducible refine ltwo_pa HP4.out HB4 ?_ ?_; (first | exact qaf _ | exact HB3.size | exact HB4.size | exact qbb _ | exact qah HB3.size); (refine Z4.out _ _ ?_; ((try with_reducible refine zdrew ?_); first | (refine qM _ _ _ ?_; ((try simp only) <;> omega)) | (refine Z3.out _ _ ?_; ((try with_reducible refine zdrew ?_); first | (refine qM _ _ _ ?_; ((try simp only) <;> omega)) | (refine (qL _ _ _ ?_).trans ?_; ((try simp only [qab, hdr3]); omega); (refine qM _ _ _ ?_; ((try simp only [qab, hdr3]) <;> omega))))) | (refine (qL _ _ _ ?_).trans ?_; ((try simp only [qab, hdr3]); omega); (first | (refine qM _ _ _ ?_; ((try simp only [qab, hdr3]) <;> omega)) | (refine Z3.out _ _ ?_; ((try with_reducible refine zdrew ?_); first | (refine qM _ _ _ ?_; ((try simp only [qab, hdr3]) <;> omega)) | (refine (qL _ _ _ ?_).trans ?_; ((try simp only [qab, hdr3]); omega); (refine qM _ _ _ ?_; ((try simp only [qab, hdr3]) <;> omega))))))) | (refine (qL _ _ _ ?_).trans ?_; ((try simp only [qab, hdr3]); omega); refine (qL _ _ _ ?_).trans ?_; ((try simp only [qab, hdr3]); omega); (refine Z3.out _ _ ?_; ((try with_reducible refine zdrew ?_); first | (refine qM _ _ _ ?_; ((try simp only [qab, hdr3]) <;> omega)) | (refine (qL _ _ _ ?_).trans ?_; ((try simp only [qab, hdr3]); omega); (refine qM _ _ _ ?_; ((try simp only [qab, hdr3]) <;> omega)))))))))
     | (with_reducible refine ltwo_pb HP4.out HB4 ?_ ?_; (first | exact qaf _ | exact HB3.size | exact HB4.size | exact qbb _ | exact qah HB3.size); (refine Z4.out _ _ ?_; ((try with_reducible refine zdrew ?_); first | (refine qM _ _ _ ?_; ((try simp only) <;> omega)) | (refine Z3.out _ _ ?_; ((try with_reducible refine zdrew ?_); first | (refine qM _ _ _ ?_; ((try simp only) <;> omega)) | (refine (qL _ _ _ ?_).trans ?_; ((try simp only [qab, hdr3]); omega); (refine qM _ _ _ ?_; ((try simp only [qab, hdr3]) <;> omega))))) | (refine (qL _ _ _ ?_).trans ?_; ((try simp only [qab, hdr3]); omega); (first | (refine qM _ _ _ ?_; ((try simp only [qab, hdr3]) <;> omega)) | (refine Z3.out _ _ ?_; ((try with_reducible refine zdrew ?_); first | (refine qM _ _ _ ?_; ((try simp only [qab, hdr3]) <;> omega)) | (refine (qL _ _ _ ?_).trans ?_; ((try simp only [qab, hdr3]); omega); (refine qM _ _ _ ?_; ((try simp only [qab, hdr3]) <;> omega))))))) | (refine (qL _ _ _ ?_).trans ?_; ((try simp only [qab, hdr3]); omega); refine (qL _ _ _ ?_).trans ?_; ((try simp only [qab, hdr3]); omega); (refine Z3.out _ _ ?_; ((try with_reducible refine zdrew ?_); first | (refine qM _ _ _ ?_; ((try simp only [qab, hdr3]) <;> omega)) | (refine (qL _ _ _ ?_).trans ?_; ((try simp only [qab, hdr3]); omega); (refine qM _ _ _ ?_; ((try simp only [qab, hdr3]) <;> omega)))))))))
     | (with_reducible refine ltwo_pp HP4.out HB4 ?_ ?_ ?_ ?_ ?_; (first | exact qaf _ | exact HB3.size | exact HB4.size | exact qbb _ | exact qah HB3.size); (first | exact qaf _ | exact HB3.size | exact HB4.size | exact qbb _ | exact qah HB3.size); omega; (refine Z4.out _ _ ?_; ((try with_reducible refine zdrew ?_); first | (refine qM _ _ _ ?_; ((try simp only [qab]) <;> omega)) | (refine Z3.out _ _ ?_; ((try with_reducible refine zdrew ?_); first | (refine qM _ _ _ ?_; ((try simp only [qab]) <;> omega)) | (refine (qL _ _ _ ?_).trans ?_; ((try simp only [qab]); omega); (refine qM _ _ _ ?_; ((try simp only) <;> omega))))) | (refine (qL _ _ _ ?_).trans ?_; ((try simp only [qab]); omega); (first | (refine qM _ _ _ ?_; ((try simp only) <;> omega)) | (refine Z3.out _ _ ?_; ((try with_reducible refine zdrew ?_); first | (refine qM _ _ _ ?_; ((try simp only) <;> omega)) | (refine (qL _ _ _ ?_).trans ?_; ((try simp only [qab, hdr3]); omega); (refine qM _ _ _ ?_; ((try simp only [qab, hdr3]) <;> omega))))))) | (refine (qL _ _ _ ?_).trans ?_; ((try simp only [qab, hdr3]); omega); refine (qL _ _ _ ?_).trans ?_; ((try simp only [qab, hdr3]); omega); (refine Z3.out _ _ ?_; ((try with_reducible refine zdrew ?_); first | (refine qM _ _ _ ?_; ((try simp only [qab, hdr3]) <;> omega)) | (refine (qL _ _ _ ?_).trans ?_; ((try simp only [qab, hdr3]); omega); (refine qM _ _ _ ?_; ((try simp only [qab, hdr3]) <;> omega)))))))); (refine Z4.out _ _ ?_; ((try with_reducible refine zdrew ?_); first | (refine qM _ _ _ ?_; ((try simp only [qab]) <;> omega)) | (refine Z3.out _ _ ?_; ((try with_reducible refine zdrew ?_); first | (refine qM _ _ _ ?_; ((try simp only [qab]) <;> omega)) | (refine (qL _ _ _ ?_).trans ?_; ((try simp only [qab]); omega); (refine qM _ _ _ ?_; ((try simp only) <;> omega))))) | (refine (qL _ _ _ ?_).trans ?_; ((try simp only [qab]); omega); (first | (refine qM _ _ _ ?_; ((try simp only) <;> omega)) | (refine Z3.out _ _ ?_; ((try with_reducible refine zdrew ?_); first | (refine qM _ _ _ ?_; ((try simp only) <;> omega)) | (refine (qL _ _ _ ?_).trans ?_; ((try simp only [qab, hdr3]); omega); (refine qM _ _ _ ?_; ((try simp only [qab, hdr3]) <;> omega))))))) | (refine (qL _ _ _ ?_).trans ?_; ((try simp only [qab, hdr3]); omega); refine (qL _ _ _ ?_).trans ?_; ((try simp only [qab, hdr3]); omega); (refine Z3.out _ _ ?_; ((try with_reducible refine zdrew ?_); first | (refine qM _ _ _ ?_; ((try simp only [qab, hdr3]) <;> omega)) | (refine (qL _ _ _ ?_).trans ?_; ((try simp only [qab, hdr3]); omega); (refine qM _ _ _ ?_; ((try simp only [qab, hdr3]) <;> omega)))))))))
   case rest =>
    obtain ⟨g3, g4, a3, n3, c3, b3, a4, n4, c4, b4, rfl, rfl, h3, h4, hi3, hi4, hb, l3, l4⟩ := hcut
    dsimp only at h3 h4 hi3 hi4
    have lr := (qG hI.out.2.1.1).1
    have hn3 : g3 ≠ w.heap.size + 1 := by omega
    have hn4 : g4 ≠ w.heap.size + 1 := by omega
    have hn0 : w.heap.size ≠ w.heap.size + 1 := by omega
    have hrb := (hb.block _ (qG hI.out.2.2.2).1).trans hI.out.2.2.2
    have D30 : ∀ W, wc.grownBy W (some (w.heap.size + 1)) → W.cell? ⟨g3, 0, none⟩ = some (.slice a3 n3 c3) := fun W h => qdf h h3 hn3 0
    have D31 : ∀ W, wc.grownBy W (some (w.heap.size + 1)) → W.cell? ⟨g3, 1, none⟩ = some (.bool b3) := fun W h => qdf h h3 hn3 1
    have D40 : ∀ W, wc.grownBy W (some (w.heap.size + 1)) → W.cell? ⟨g4, 0, none⟩ = some (.slice a4 n4 c4) := fun W h => qdf h h4 hn4 0
    have D41 : ∀ W, wc.grownBy W (some (w.heap.size + 1)) → W.cell? ⟨g4, 1, none⟩ = some (.bool b4) := fun W h => qdf h h4 hn4 1
    have D00 : ∀ W, wc.grownBy W (some (w.heap.size + 1)) → W.cell? ⟨w.heap.size, 0, none⟩ = some (.slice a0 n0 c0) := fun W h => qdf h hrb hn0 0
    have D01 : ∀ W, wc.grownBy W (some (w.heap.size + 1)) → W.cell? ⟨w.heap.size, 1, none⟩ = some (.bool b0) := fun W h => qdf h hrb hn0 1
    have hBc := hB.out.trans (hb.mono hB.out.size)
    have hi0 := HC.out.2.2.2.2.2.2.1.below (W' := wc) (hBc.mono (by omega))
    have hP := HC.out.2.2.2.2.1 j hjn
    have hfs := (HC.out.2.2.2.2.2.1 cc hc).mul (HC.out.2.2.2.2.1 j hjn)
    have hft := (HC.out.2.2.2.2.1 cc hc).mul (HC.out.2.2.2.2.2.1 j hjn)
    rw [← qaC] at hfs hft
    have hfn : Fit (-(zs cc * ys j)).natAbs (K + K) := by rw [qbv]; exact hft
    have hfu : Fit (ys cc * zs j + -(zs cc * ys j)).natAbs (K + K + 1) := (hfs.add hfn).le (Int.natAbs_add_le _ _)
    have HA := qH (fun W (h : Below wc.heap.size wc W) => least.qee (zs cc * ys j) _ W (hi4.below h))
    have HS := qH (fun W (u : Value) (h : Below wc.heap.size wc W) (hu : IntAt W u (-(zs cc * ys j))) => least.qeN (ys cc * zs j) (-(zs cc * ys j)) (K + K) (by omega) _ u W (hi3.below h) hu hfs hfn)
    have HQ := qH (fun W (u : Value) (h : Below wc.heap.size wc W) (hu : IntAt W u (ys cc * zs j + -(zs cc * ys j))) => least.qiY (ys cc * zs j + -(zs cc * ys j)) z0 (K + K + 1) (by omega) u _ W hu (hi0.below h) hfu (HC.out.2.2.2.2.2.2.2.1.mono (by omega)) hz0)
    have HIc := qH (qA (hI.out.2.1.below hb) (qA (hI.out.2.2.1.below hb) (qA hrb hBc)))
    have hqst : Below wc.heap.size wc wc := Below.refl _ _
    have hqstD : Below wc.heap.size wc wc.drew := hqst.drew
    clear h3 h4 hi3 hi4 hb hrb hBc hi0 hP hfs hft hfn hfu hst hstD hdr2 C10 C11 C20 C21 C50 C51 C60 C61 HN1 HN2
    go_wp2_with fail
    go_region_held3 (fun W => wc.grownBy W (some (w.heap.size + 1))) (first | with_reducible exact qcP _ _ | with_reducible exact qcd _ hqstD | with_reducible exact qcd _ HB7 | with_reducible exact qcd _ HB6 | with_reducible exact qcd _ HB5 | with_reducible exact qcd _ HB7.drew | with_reducible exact qcd _ HB6.drew | with_reducible exact qcd _ HB5.drew | exact qca (qca (qcd _ HB7) (least.qcb _ _ _ _)) (least.qcb _ _ _ _) | exact qca (qca (qcd _ HB7.drew) (least.qcb _ _ _ _)) (least.qcb _ _ _ _)) (first | (go_at_call 72; refine (HA.out _ (by first | with_reducible exact hqst | with_reducible exact hqstD)).mono ?_; rintro e w5 ⟨p5, rfl, hb5, hp5⟩; have HB5 : Below wc.heap.size wc w5 := bjoin (by first | with_reducible exact hqst | with_reducible exact hqstD) hb5; obtain ⟨a7, n7, c7, b7, rfl⟩ := least.qb8 hp5; have G5 := qH hp5; clear hb5 hp5) | (go_at_call 70; refine (HS.out _ _ (by first | with_reducible exact HB5 | with_reducible exact HB5.drew) (by first | exact G5.out | exact G5.out.below qB.drew)).mono ?_; rintro e w6 ⟨p6, rfl, hb6, hp6⟩; have HB6 : Below wc.heap.size wc w6 := bjoin (by first | with_reducible exact HB5 | with_reducible exact HB5.drew) hb6; obtain ⟨a8, n8, c8, b8, rfl⟩ := least.qb8 hp6; have G6 := qH hp6; clear hb6 hp6) | (go_at_call 154; refine (HQ.out _ _ (by first | with_reducible exact HB6 | with_reducible exact HB6.drew) (by first | exact G6.out | exact G6.out.below qB.drew)).mono ?_; rintro e w7 ⟨p7, rfl, hb7, hp7⟩; have HB7 : Below wc.heap.size wc w7 := bjoin (by first | with_reducible exact HB6 | with_reducible exact HB6.drew) hb7; obtain ⟨a9, n9, c9, b9, rfl⟩ := least.qb8 hp7; have G7 := qH hp7; have R7 := HIc.out.1.below HB7; have R7l := hI.out.1; have R7s := R7.at (by omega); rw [R7l] at R7s; obtain ⟨⟨r70, r71⟩, r7f⟩ := R7s; have r72 := r7f (j * 2); have r73 := r7f (j * 2 + 1); have HF7 := qH (qA (qkn R7 (HIc.out.2.1.below HB7) hI.out.1 hjn (a := a9) (m := n9) (c := c9) (b := b9) (by rw [Int.sub_eq_add_neg]; exact hp7)) (qA ((Below.heap_setCell (w7.setCell ⟨w.heap.size + 1, j * 2, none⟩ (.slice a9 n9 c9)) ⟨w.heap.size + 1, j * 2 + 1, none⟩ (.bool b9) w.heap.size hn0).trans ((Below.heap_setCell w7 ⟨w.heap.size + 1, j * 2, none⟩ (.slice a9 n9 c9) w.heap.size hn0).trans ((HB7.block _ (qG HIc.out.2.2.1).1).trans HIc.out.2.2.1))) (((HIc.out.2.2.2.trans (HB7.mono HIc.out.2.2.2.size)).setCell (p := ⟨w.heap.size + 1, j * 2, none⟩) (by show w.heap.size ≤ w.heap.size + 1; omega) (.slice a9 n9 c9)).setCell (p := ⟨w.heap.size + 1, j * 2 + 1, none⟩) (by show w.heap.size ≤ w.heap.size + 1; omega) (.bool b9)))); clear hb7 hp7 R7 R7l r7f))
    all_goals go_wp2_with fail
    all_goals go_roundw
    case rel => exact ⟨j + 1, _, hjn, by go_num, qH ⟨by rw [qaj, hI.out.1]; rfl, HF7.out.1.1, HF7.out.1.2, HF7.out.2.1⟩, qH HF7.out.2.2⟩
    case measure => simp [intOf]; omega
  ·obtain rfl : j = n := by omega
   go_wp2_with fail
   go_ret
   exact ⟨_, rs, rfl, qbb _, hB.out, hI.out.1, hI.out.2.1, hI.out.2.2.1⟩
end Go.Proofs.YtfminfgabiipjaaGreatDoor
