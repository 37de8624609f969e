/- Aa, part 33: Rl Ro Rm -/
import Derived.Test.YtfminfgabiipjaaGreatDoorAa0
import Derived.Test.YtfminfgabiipjaaGreatDoorAa17
import Derived.Test.YtfminfgabiipjaaGreatDoorAa23
import Derived.Test.YtfminfgabiipjaaGreatDoorAa32
set_option maxRecDepth 100000
set_option maxHeartbeats 16000000
namespace Go.Proofs.YtfminfgabiipjaaGreatDoor.p4
open Go.RowKit
def TwoP (W2 W : World) (g3 g4 : Nat) (v3 : Bool × Option Addr × Nat × Nat) (v4 : Bool × Option Addr × Nat × Nat) (z3 z4 : Int) : Prop :=
 W.heap[g3]? = some (.cells #[.bool v3.1, .slice v3.2.1 v3.2.2.1 v3.2.2.2] 121 (0, 0)) ∧ W.heap[g4]? = some (.cells #[.bool v4.1, .slice v4.2.1 v4.2.2.1 v4.2.2.2] 121 (0, 0)) ∧
  qcf W (.agg #[.bool v3.1, .slice v3.2.1 v3.2.2.1 v3.2.2.2]) z3 ∧ qcf W (.agg #[.bool v4.1, .slice v4.2.1 v4.2.2.1 v4.2.2.2]) z4 ∧ Below W2.heap.size W2 W ∧ W2.heap.size ≤ g3 ∧ W2.heap.size ≤ g4
theorem qet {W : World} {g : Nat} {t : TypeId} {b0 : Bool} {a0 : Option Addr} {n0 c0 : Nat} (h : W.heap[g]? = some (.cells #[.bool b0, .slice a0 n0 c0] t (0, 0))) (b : Bool) (a : Option Addr) (n c : Nat) :
  ((W.setCell ⟨g, 0, none⟩ (.bool b)).setCell ⟨g, 1, none⟩ (.slice a n c)).heap[g]? = some (.cells #[.bool b, .slice a n c] t (0, 0)) ∧
  (∀ k, k ≠ g → ((W.setCell ⟨g, 0, none⟩ (.bool b)).setCell ⟨g, 1, none⟩ (.slice a n c)).heap[k]? = W.heap[k]?) ∧
  (∀ v z, qcf W v z → qcf ((W.setCell ⟨g, 0, none⟩ (.bool b)).setCell ⟨g, 1, none⟩ (.slice a n c)) v z) :=
 ⟨row_setB h a n c b, fun _k hk => (Below.heap_setCell _ _ _ _ hk).trans (Below.heap_setCell _ _ _ _ hk), fun _ _ hi => qkV hi h a n c b⟩
section
variable {W2 W : World} {b3 : Bool} {a3 : Option Addr} {n3 c3 : Nat} {b4 : Bool} {a4 : Option Addr} {n4 c4 : Nat} {z3 z4 : Int}
theorem qmP (h : qcf W (.agg #[.bool b3, .slice a3 n3 c3]) z3 ∧ qcf W (.agg #[.bool b4, .slice a4 n4 c4]) z4) (hb : Below W2.heap.size W2 W) :
  TwoP W2 ((W.alloc (.cells #[.bool b3, .slice a3 n3 c3] 121)).alloc (.cells #[.bool b4, .slice a4 n4 c4] 121)) W.heap.size (W.heap.size + 1) (b3, a3, n3, c3) (b4, a4, n4, c4) z3 z4 :=
 have k := qb1 (qb1 (Below.refl W.heap.size W) qN) qN
 ⟨(qL _ _ _ (by simp only [qab]; omega)).trans (qM _ _ _ rfl), qM _ _ _ (by simp only [qab]), h.1.below k, h.2.below k, qb1 (qb1 hb qN) qN, hb.size, qah hb.size⟩
theorem qmQ (h : qcf W (.agg #[.bool b3, .slice a3 n3 c3]) z3 ∧ qcf W (.agg #[.bool b4, .slice a4 n4 c4]) z4) (hb : Below W2.heap.size W2 W) :
  TwoP W2 ((W.alloc (.cells #[.bool b4, .slice a4 n4 c4] 121)).alloc (.cells #[.bool b3, .slice a3 n3 c3] 121)) (W.heap.size + 1) W.heap.size (b3, a3, n3, c3) (b4, a4, n4, c4) z3 z4 :=
 have k := qb1 (qb1 (Below.refl W.heap.size W) qN) qN
 ⟨qM _ _ _ (by simp only [qab]), (qL _ _ _ (by simp only [qab]; omega)).trans (qM _ _ _ rfl), h.1.below k, h.2.below k, qb1 (qb1 hb qN) qN, qah hb.size, hb.size⟩
theorem qmR {g : Nat} (h : qcf W (.agg #[.bool b3, .slice a3 n3 c3]) z3 ∧ qcf W (.agg #[.bool b4, .slice a4 n4 c4]) z4) (hb : Below W2.heap.size W2 W) (hg : W2.heap.size ≤ g) (hz : W.heap[g]? = some (.cells #[.bool false, .slice none 0 0] 121 (0, 0))) :
  TwoP W2 (((W.setCell ⟨g, 0, none⟩ (.bool b3)).setCell ⟨g, 1, none⟩ (.slice a3 n3 c3)).alloc (.cells #[.bool b4, .slice a4 n4 c4] 121)) g W.heap.size (b3, a3, n3, c3) (b4, a4, n4, c4) z3 z4 := by
 obtain ⟨p1, p2, p3⟩ := qet hz b3 a3 n3 c3
 have lt := (qG hz).1
 have k : ∀ V : World, Below V.heap.size V (V.alloc (.cells #[.bool b4, .slice a4 n4 c4] 121)) := fun V => qb1 qB qN
 exact ⟨(qL _ _ _ (by simp only [qbo]; exact lt)).trans p1, qM _ _ _ (by simp only [qbo]), (p3 _ _ h.1).below (k _), (p3 _ _ h.2).below (k _), qb1 ((hb.setCell (by exact hg) _).setCell (by exact hg) _) qN, hg, hb.size⟩
theorem qmS {g : Nat} (h : qcf W (.agg #[.bool b3, .slice a3 n3 c3]) z3 ∧ qcf W (.agg #[.bool b4, .slice a4 n4 c4]) z4) (hb : Below W2.heap.size W2 W) (hg : W2.heap.size ≤ g) (hz : W.heap[g]? = some (.cells #[.bool false, .slice none 0 0] 121 (0, 0))) :
  TwoP W2 (((W.setCell ⟨g, 0, none⟩ (.bool b4)).setCell ⟨g, 1, none⟩ (.slice a4 n4 c4)).alloc (.cells #[.bool b3, .slice a3 n3 c3] 121)) W.heap.size g (b3, a3, n3, c3) (b4, a4, n4, c4) z3 z4 := by
 obtain ⟨p1, p2, p3⟩ := qet hz b4 a4 n4 c4
 have lt := (qG hz).1
 have k : ∀ V : World, Below V.heap.size V (V.alloc (.cells #[.bool b3, .slice a3 n3 c3] 121)) := fun V => qb1 qB qN
 exact ⟨qM _ _ _ (by simp only [qbo]), (qL _ _ _ (by simp only [qbo]; exact lt)).trans p1, (p3 _ _ h.1).below (k _), (p3 _ _ h.2).below (k _), qb1 ((hb.setCell (by exact hg) _).setCell (by exact hg) _) qN, hb.size, hg⟩
theorem qjN {g g' : Nat} (h : qcf W (.agg #[.bool b3, .slice a3 n3 c3]) z3 ∧ qcf W (.agg #[.bool b4, .slice a4 n4 c4]) z4) (hb : Below W2.heap.size W2 W) (hg : W2.heap.size ≤ g) (hg' : W2.heap.size ≤ g') (hne : g ≠ g') (hz : W.heap[g]? = some (.cells #[.bool false, .slice none 0 0] 121 (0, 0))) (hz' : W.heap[g']? = some (.cells #[.bool false, .slice none 0 0] 121 (0, 0))) :
  TwoP W2 ((((W.setCell ⟨g, 0, none⟩ (.bool b3)).setCell ⟨g, 1, none⟩ (.slice a3 n3 c3)).setCell ⟨g', 0, none⟩ (.bool b4)).setCell ⟨g', 1, none⟩ (.slice a4 n4 c4)) g g' (b3, a3, n3, c3) (b4, a4, n4, c4) z3 z4 := by
 obtain ⟨p1, p2, p3⟩ := qet hz b3 a3 n3 c3
 obtain ⟨q1, q2, q3⟩ := qet ((p2 g' (Ne.symm hne)).trans hz') b4 a4 n4 c4
 exact ⟨(q2 g hne).trans p1, q1, q3 _ _ (p3 _ _ h.1), q3 _ _ (p3 _ _ h.2), (((hb.setCell (by exact hg) _).setCell (by exact hg) _).setCell (by exact hg') _).setCell (by exact hg') _, hg, hg'⟩
theorem qmT {g g' : Nat} (h : qcf W (.agg #[.bool b3, .slice a3 n3 c3]) z3 ∧ qcf W (.agg #[.bool b4, .slice a4 n4 c4]) z4) (hb : Below W2.heap.size W2 W) (hg : W2.heap.size ≤ g) (hg' : W2.heap.size ≤ g') (hne : g ≠ g') (hz : W.heap[g]? = some (.cells #[.bool false, .slice none 0 0] 121 (0, 0))) (hz' : W.heap[g']? = some (.cells #[.bool false, .slice none 0 0] 121 (0, 0))) :
  TwoP W2 ((((W.setCell ⟨g', 0, none⟩ (.bool b4)).setCell ⟨g', 1, none⟩ (.slice a4 n4 c4)).setCell ⟨g, 0, none⟩ (.bool b3)).setCell ⟨g, 1, none⟩ (.slice a3 n3 c3)) g g' (b3, a3, n3, c3) (b4, a4, n4, c4) z3 z4 := by
 obtain ⟨p1, p2, p3⟩ := qet hz' b4 a4 n4 c4
 obtain ⟨q1, q2, q3⟩ := qet ((p2 g hne).trans hz) b3 a3 n3 c3
 exact ⟨q1, (q2 g' (Ne.symm hne)).trans p1, q3 _ _ (p3 _ _ h.1), q3 _ _ (p3 _ _ h.2), (((hb.setCell (by exact hg') _).setCell (by exact hg') _).setCell (by exact hg) _).setCell (by exact hg) _, hg, hg'⟩
end
theorem qkZ {P : Program} {fn : Func} {p q : Tmp} {ty : TypeId} (h : fn.results = #[.cell p ty, .cell q ty]) (tmps : Array Value) (w : World) (g g' : Nat) (t : TypeId) (cs cs' : Array Value) (d : TypeDesc)
  (hp : tmps.getD p undef = .pointer (some ⟨g, 0, none⟩)) (hq : tmps.getD q undef = .pointer (some ⟨g', 0, none⟩)) (hg : w.heap[g]? = some (.cells cs t (0, 0))) (hg' : w.heap[g']? = some (.cells cs' t (0, 0)))
  (hu : P.underlying ty = some d) (hd : (match d with | .struct _ | .array _ _ => true | _ => false) = true) (n : Nat) (hi : (P.info? ty).map (·.size) = some n) (hcs : cs.size = n) (hcs' : cs'.size = n) :
  (results fn tmps).run P w = .ok (.tuple #[.agg cs, .agg cs']) w := by
 have hp' : tmps[p]?.getD undef = .pointer (some ⟨g, 0, none⟩) := by simpa using hp
 have hq' : tmps[q]?.getD undef = .pointer (some ⟨g', 0, none⟩) := by simpa using hq
 have h1 := run_loadVar_row w g t ty cs (0, 0) d hg hu hd (by rw [hcs]; exact hi)
 have h2 := run_loadVar_row w g' t ty cs' (0, 0) d hg' hu hd (by rw [hcs']; exact hi)
 simp [results, h, hp', hq', asAddr, h1, h2, Sem.run_bind, Result.andThen]
theorem qhg (x y : Int) (K : Nat) (hK : K ≤ 17592186000000) (v u : Value) (w : World) (hv : qcf w v x) (hu : qcf w u y) (hx : Fit x.natAbs K) (hy : Fit y.natAbs K) (hy0 : 0 < y) (hdiv : x.natAbs % y.natAbs = 0) :
  Calls Tryz.prog 166 #[v, u] w fun e w' => ∃ p q, e = .returned (.tuple #[p, q]) ∧ Below w.heap.size w w' ∧ qcf w' p (if x < 0 then -((x.natAbs / y.natAbs : Nat) : Int) else ((x.natAbs / y.natAbs : Nat) : Int)) ∧ qcf w' q 0 := by
 obtain ⟨m, rfl, hm⟩ := hv
 obtain ⟨o, rfl, ho⟩ := hu
 rw [decide_eq_false (show ¬ y < 0 by omega)]
 have hp := fun (W : World) (h : Below w.heap.size w W) => qiW x.natAbs y.natAbs K hK m o W (hm.below h) (ho.below h) hx hy (by omega)
 rw [hdiv] at hp
 have hq : Fit (x.natAbs / y.natAbs) K := hx.le (qaU _ _)
 have hres : (if (decide (x < 0) != false) = true then -((x.natAbs / y.natAbs : Nat) : Int) else ((x.natAbs / y.natAbs : Nat) : Int)) = (if x < 0 then -((x.natAbs / y.natAbs : Nat) : Int) else ((x.natAbs / y.natAbs : Nat) : Int)) := by
  by_cases h : x < 0
  ·rw [decide_eq_true h, if_pos h]; rfl
  ·rw [decide_eq_false h, if_neg h]; rfl
 rw [← hres]
 obtain ⟨b0, hb0⟩ : ∃ b0, decide (x < 0) = b0 := ⟨_, rfl⟩
 rw [hb0]
 rw [show (b0 != false) = b0 by cases b0 <;> rfl]
 obtain ⟨X, hX⟩ : ∃ X : Int, (if b0 = true then -((x.natAbs / y.natAbs : Nat) : Int) else ((x.natAbs / y.natAbs : Nat) : Int)) = X := ⟨_, rfl⟩
 rw [hX]
 generalize x.natAbs / y.natAbs = Q at *
 have HP := qH hp
 have HXX := qH hX
 have HQ := qH hq
 have hK2 := hK
 obtain ⟨ax, bm, om, cx, nx, M, rfl, Im, hMx⟩ := hm
 obtain ⟨ay, bo, oo, cy, ny, O, rfl, Io, hOx⟩ := ho
 clear hX hp hq hres hb0 Im hMx Io hOx hx hy hK hdiv
 obtain ⟨W1, hW1⟩ : ∃ W1, W1 = (((w.alloc (.cells #[.bool b0, .slice ax nx cx] 121)).alloc (.cells #[.bool false, .slice ay ny cy] 121)).alloc (.cells #[.bool false, .slice none 0 0] 121)).alloc (.cells #[.bool false, .slice none 0 0] 121) := ⟨_, rfl⟩
 have hb1 : Below w.heap.size w W1 := hW1 ▸ qb1 (qb1 (qb1 (qb1 qB qN) qN) qN) qN
 have hr0 : W1.heap[w.heap.size]? = some (.cells #[.bool b0, .slice ax nx cx] 121 (0, 0)) := by rw [hW1, qL _ _ _ (by simp only [qab]; omega), qL _ _ _ (by simp only [qab]; omega), qL _ _ _ (by simp only [qab]; omega)]; exact qM _ _ _ rfl
 have hr1 : W1.heap[w.heap.size + 1]? = some (.cells #[.bool false, .slice ay ny cy] 121 (0, 0)) := by rw [hW1, qL _ _ _ (by simp only [qab]; omega), qL _ _ _ (by simp only [qab]; omega)]; exact qM _ _ _ (by simp)
 have hr2 : W1.heap[w.heap.size + 1 + 1]? = some (.cells #[.bool false, .slice none 0 0] 121 (0, 0)) := by rw [hW1, qL _ _ _ (by simp only [qab]; omega)]; exact qM _ _ _ (by simp)
 have hr3 : W1.heap[w.heap.size + 1 + 1 + 1]? = some (.cells #[.bool false, .slice none 0 0] 121 (0, 0)) := by rw [hW1]; exact qM _ _ _ (by simp)
 have k01 := cell_of_row W1 _ 1 _ _ _ hr0
 have k11 := cell_of_row W1 _ 1 _ _ _ hr1
 have HR := qH (qA hb1 (qA hr0 (qA hr1 (qA hr2 hr3))))
 clear hr0 hr1 hr2 hr3 hb1
 go_enter Tryz.func166, Tryz.ntmps166
 go_wp2_with fail
 rw [← hW1]
 clear hW1
 go_wp2_with fail
 refine (HP.out _ HR.out.1).mono ?_
 rintro e w2 ⟨q, r, rfl, hb2, hvq, hvr⟩
 clear k01 k11
 have hst : Below w2.heap.size w2 w2 := Below.refl _ _
 have hstD : Below w2.heap.size w2 w2.drew := hst.drew
 have hdr2 : w2.drew.heap.size = w2.heap.size := rfl
 have row : ∀ (g : Nat) (o : Obj), W1.heap[g]? = some o → w2.heap[g]? = some o := zkeep hb2
 have R0 := row _ _ HR.out.2.1
 have R1 := row _ _ HR.out.2.2.1
 have l0 : w.heap.size < w2.heap.size := (qG R0).1
 have l1 : w.heap.size + 1 < w2.heap.size := (qG R1).1
 have C0 : ∀ W, Below w2.heap.size w2 W → W.cell? ⟨w.heap.size, 0, none⟩ = some (.bool b0) := fun W h => (h.cell (p := ⟨w.heap.size, 0, none⟩) l0).trans (cell_of_row _ _ 0 _ _ _ R0)
 have C1 : ∀ W, Below w2.heap.size w2 W → W.cell? ⟨w.heap.size + 1, 0, none⟩ = some (.bool false) := fun W h => (h.cell (p := ⟨w.heap.size + 1, 0, none⟩) l1).trans (cell_of_row _ _ 0 _ _ _ R1)
 have hn3 := fun (W : World) (h : Below w2.heap.size w2 W) => qfb Q K b0 q W ((hvq.below h).digs HQ.out) (by omega)
 have hn4 := fun (W : World) (h : Below w2.heap.size w2 W) => qfb 0 1 b0 r W ((hvr.below h).digs (by unfold Fit; decide)) (by decide)
 rw [HXX.out] at hn3
 rw [show (if b0 = true then -((0 : Nat) : Int) else ((0 : Nat) : Int)) = 0 by split <;> rfl] at hn4
 have HN3 := qH hn3
 have HN4 := qH hn4
 have hbw2 := HR.out.1.trans (hb2.mono HR.out.1.size)
 have H2 := qH (qA hbw2 (qA (row _ _ HR.out.2.2.2.1) (row _ _ HR.out.2.2.2.2)))
 obtain ⟨aq, _, _, cq, nq0, _, rfl, _, _⟩ := hvq
 obtain ⟨ar, _, _, cr, nr0, _, rfl, _, _⟩ := hvr
 clear hn3 hn4 R0 R1 hb2 hbw2 row
 go_wp2_with fail
 have hdr3 : ∀ W : World, W.drew.heap.size = W.heap.size := fun _ => rfl
 go_cut [8, 9] (fun x4 x5 W => ∃ (g3 g4 : Nat) (b3 : Bool) (a3 : Option Addr) (n3 c3 : Nat) (b4 : Bool) (a4 : Option Addr) (n4 c4 : Nat), x4 = .pointer (some ⟨g3, 0, none⟩) ∧ x5 = .pointer (some ⟨g4, 0, none⟩) ∧ TwoP w2 W g3 g4 (b3, a3, n3, c3) (b4, a4, n4, c4) X 0)
 case first =>
  go_region_held3 (fun W => Below w2.heap.size w2 W) (first | with_reducible exact hst | with_reducible exact hstD | with_reducible exact HB4 | with_reducible exact HB3 | ((repeat (first | refine Below.setCell ?_ (by first | exact qaf _ | exact HB3.size | exact HB4.size | exact qah qN | exact qah HB3.size | exact qah HB4.size) _ | refine qb1 ?_ qN | refine Below.drew ?_)); first | exact HB4 | exact HB3 | exact hst)) (first | (go_at_call_of 167 (Value.slice aq nq0 cq); refine (HN3.out _ (by ((repeat (first | refine Below.setCell ?_ (by first | exact qaf _ | exact HB3.size | exact HB4.size | exact qah qN | exact qah HB3.size | exact qah HB4.size) _ | refine qb1 ?_ qN | refine Below.drew ?_)); first | exact hst))).mono ?_; rintro e w3 ⟨p3, rfl, hb3, hp3⟩; have HB3 : Below w2.heap.size w2 w3 := bjoin (by ((repeat (first | refine Below.setCell ?_ (by first | exact qaf _ | exact HB3.size | exact HB4.size | exact qah qN | exact qah HB3.size | exact qah HB4.size) _ | refine qb1 ?_ qN | refine Below.drew ?_)); first | exact hst)) hb3; obtain ⟨b3, a3, n3, c3, rfl⟩ := hp3.shape; have HP3 := qH hp3; obtain ⟨k3, k3f⟩ := bcell hb3; have Z3 := qH (zkeep hb3); have s3 : _ ≤ _ := hb3.size; (try simp only [qab, hdr2, hdr3] at s3); (try have q3 : w2.heap.size < w3.heap.size := by omega); (try have r3 : w2.heap.size + 1 < w3.heap.size := by omega); clear hb3 hp3) | (go_at_call_of 167 (Value.slice ar nr0 cr); refine (HN4.out _ (by ((repeat (first | refine Below.setCell ?_ (by first | exact qaf _ | exact HB3.size | exact HB4.size | exact qah qN | exact qah HB3.size | exact qah HB4.size) _ | refine qb1 ?_ qN | refine Below.drew ?_)); first | exact HB3))).mono ?_; rintro e w4 ⟨p4, rfl, hb4, hp4⟩; have HB4 : Below w2.heap.size w2 w4 := bjoin (by ((repeat (first | refine Below.setCell ?_ (by first | exact qaf _ | exact HB3.size | exact HB4.size | exact qah qN | exact qah HB3.size | exact qah HB4.size) _ | refine qb1 ?_ qN | refine Below.drew ?_)); first | exact HB3)) hb4; obtain ⟨b4, a4, n4, c4, rfl⟩ := hp4.shape; have HP4 := qH (qA (show qcf w4 _ _ from (by first | exact HP3.out.below hb4 | exact (HP3.out.below (qb1 qB qN)).below hb4 | exact (HP3.out.below (qb1 (qb1 qB qN) qN)).below hb4)) hp4); obtain ⟨k4, k4f⟩ := bcell hb4; have Z4 := qH (zkeep hb4); have s4 : _ ≤ _ := hb4.size; (try simp only [qab] at s4); (try have q4 : w2.heap.size < w4.heap.size := by omega); (try have r4 : w2.heap.size + 1 < w4.heap.size := by omega); (try have t4 : w3.heap.size < w4.heap.size := by omega); (try have u4 : w3.heap.size + 1 < w4.heap.size := by omega); clear hb4 hp4))
  all_goals go_wp2_with fail
  all_goals go_meet
  all_goals refine ⟨_, _, b3, a3, n3, c3, b4, a4, n4, c4, rfl, rfl, ?_⟩
  all_goals first
   | with_reducible exact qmP HP4.out HB4
   | with_reducible exact qmQ HP4.out HB4
   | (with_reducible refine qmR HP4.out HB4 ?_ ?_; (first | exact qaf _ | exact HB3.size | exact HB4.size | exact qbb _ | exact qah HB3.size); (repeat first | with_reducible refine zdrew ?_ | refine Z4.out _ _ ?_ | refine Z3.out _ _ ?_ | (refine qM _ _ _ ?_; ((try simp only) <;> omega)) | (refine (qL _ _ _ ?_).trans ?_; ((try simp only [qab, hdr3]); omega))))
   | (with_reducible refine qmS HP4.out HB4 ?_ ?_; (first | exact qaf _ | exact HB3.size | exact HB4.size | exact qbb _ | exact qah HB3.size); (repeat first | with_reducible refine zdrew ?_ | refine Z4.out _ _ ?_ | refine Z3.out _ _ ?_ | (refine qM _ _ _ ?_; ((try simp only) <;> omega)) | (refine (qL _ _ _ ?_).trans ?_; ((try simp only [qab, hdr3]); omega))))
   | (with_reducible refine qjN HP4.out HB4 ?_ ?_ ?_ ?_ ?_; (first | exact qaf _ | exact HB3.size | exact HB4.size | exact qbb _ | exact qah HB3.size); (first | exact qaf _ | exact HB3.size | exact HB4.size | exact qbb _ | exact qah HB3.size); omega; (repeat first | with_reducible refine zdrew ?_ | refine Z4.out _ _ ?_ | refine Z3.out _ _ ?_ | (refine qM _ _ _ ?_; ((try simp only [qab]) <;> omega)) | (refine (qL _ _ _ ?_).trans ?_; ((try simp only [qab]); omega))); (repeat first | with_reducible refine zdrew ?_ | refine Z4.out _ _ ?_ | refine Z3.out _ _ ?_ | (refine qM _ _ _ ?_; ((try simp only [qab, hdr3]) <;> omega)) | (refine (qL _ _ _ ?_).trans ?_; ((try simp only [qab, hdr3]); omega))))
   | (with_reducible refine qmT HP4.out HB4 ?_ ?_ ?_ ?_ ?_; (first | exact qaf _ | exact HB3.size | exact HB4.size | exact qbb _ | exact qah HB3.size); (first | exact qaf _ | exact HB3.size | exact HB4.size | exact qbb _ | exact qah HB3.size); omega; (repeat first | with_reducible refine zdrew ?_ | refine Z4.out _ _ ?_ | refine Z3.out _ _ ?_ | (refine qM _ _ _ ?_; ((try simp only [qab, hdr3]) <;> omega)) | (refine (qL _ _ _ ?_).trans ?_; ((try simp only [qab, hdr3]); omega))); (repeat first | with_reducible refine zdrew ?_ | refine Z4.out _ _ ?_ | refine Z3.out _ _ ?_ | (refine qM _ _ _ ?_; ((try simp only [qab, hdr3]) <;> omega)) | (refine (qL _ _ _ ?_).trans ?_; ((try simp only [qab, hdr3]); omega))))
 case rest =>
  obtain ⟨g3, g4, b3, a3, n3, c3, b4, a4, n4, c4, rfl, rfl, h3, h4, hi3, hi4, hb, hge3, hge4⟩ := hcut
  dsimp only at h3 h4 hi3 hi4
  have hb4 : b4 = false := by
   obtain ⟨m4, hm4, _⟩ := hi4
   simp only [qba, qbg, qa5, qbF] at hm4
   exact hm4.1
  subst hb4
  have e30 := cell_of_row wc _ 0 _ _ _ h3
  have e31 := cell_of_row wc _ 1 _ _ _ h3
  have e40 := cell_of_row wc _ 0 _ _ _ h4
  have e41 := cell_of_row wc _ 1 _ _ _ h4
  have hr2 := (hb.block _ (qG H2.out.2.1).1).trans H2.out.2.1
  have hr3 := (hb.block _ (qG H2.out.2.2).1).trans H2.out.2.2
  have z20 := cell_of_row wc _ 0 _ _ _ hr2
  have z21 := cell_of_row wc _ 1 _ _ _ hr2
  have z30 := cell_of_row wc _ 0 _ _ _ hr3
  have z31 := cell_of_row wc _ 1 _ _ _ hr3
  have y20 := frozen_of_row wc _ 0 _ _ hr2
  have y21 := frozen_of_row wc _ 1 _ _ hr2
  have y30 := frozen_of_row wc _ 0 _ _ hr3
  have y31 := frozen_of_row wc _ 1 _ _ hr3
  have HX := qH (qA hr2 (qA hr3 (qA hi3 (qA hi4 (H2.out.1.trans (hb.mono H2.out.1.size))))))
  clear h3 h4 hi3 hi4 hb hr2 hr3
  have l3 := (qG H2.out.2.2).1
  have x1 : ¬ w.heap.size + 1 + 1 = g4 := by omega
  have x2 : ¬ g4 = w.heap.size + 1 + 1 := by omega
  have x3 : ¬ w.heap.size + 1 + 1 + 1 = g3 := by omega
  have x4 : ¬ g3 = w.heap.size + 1 + 1 + 1 := by omega
  clear l3 hge3 hge4
  go_wp2_with fail
  go_region
  go_wp2_with fail
  have hT := qjN (W2 := w) ⟨HX.out.2.2.1, HX.out.2.2.2.1⟩ HX.out.2.2.2.2 (g := w.heap.size + 1 + 1) (g' := w.heap.size + 1 + 1 + 1) (by omega) (by omega) (by omega) HX.out.1 HX.out.2.1
  obtain ⟨t1, t2, t3, t4, t5, _⟩ := hT
  exact bodyPost_ret (v := .tuple #[.agg #[.bool b3, .slice a3 n3 c3], .agg #[.bool false, .slice a4 n4 c4]]) (qkZ rfl _ _ (w.heap.size + 1 + 1) (w.heap.size + 1 + 1 + 1) 121 _ _ _ rfl rfl (zdrew t1) (zdrew t2) Tryz.underlying121 rfl 2 (by kernel_rfl) rfl rfl) rfl ⟨_, _, rfl, t5.drew, t3.below (qB.drew), t4.below (qB.drew)⟩
def qc0 (W : World) (v : Value) (q : Rat) : Prop := ∃ m o, v = .agg #[.bool (decide (q.num < 0)), m, .bool false, o] ∧ MagAt W m q.num.natAbs ∧ MagAt W o q.den
theorem qc0.below {W W' : World} {v : Value} {q : Rat} (h : qc0 W v q) (hb : Below W.heap.size W W') : qc0 W' v q := by
 obtain ⟨m, o, h1, h2, h3⟩ := h
 exact ⟨m, o, h1, h2.below hb, h3.below hb⟩
theorem qc0.shape {W : World} {v : Value} {q : Rat} (h : qc0 W v q) : ∃ (b : Bool) (a : Option Addr) (n c : Nat) (a' : Option Addr) (n' c' : Nat), v = .agg #[.bool b, .slice a n c, .bool false, .slice a' n' c'] := by
 obtain ⟨m, o, rfl, ⟨am, bm, om, cm, n, M, rfl, _, _⟩, ⟨ao, bo, oo, co, no, O, rfl, _, _⟩⟩ := h
 exact ⟨_, am, n, cm, ao, no, co, rfl⟩
theorem qgz {W : World} {v : Value} {q : Rat} {g : Nat} {cs cs' : Array Value} {t : TypeId} {fz : Nat × Nat} (h : qc0 W v q) (hg : W.heap[g]? = some (.cells cs t fz)) (hne : ∀ x ∈ cs.toList, ∀ d, x ≠ .int .i64 d) : qc0 (W.setRow g cs') v q := by
 obtain ⟨m, o, h1, h2, h3⟩ := h
 exact ⟨m, o, h1, qc2 h2 hg hne, qc2 h3 hg hne⟩
theorem qiZ {W : World} {b b' : Bool} {m o : Value} {q : Rat} {x y : Int} (hx : qcf W (.agg #[.bool b, m]) x) (hy : qcf W (.agg #[.bool b', o]) y) (h1 : x = q.num) (h2 : y = (q.den : Int)) : qc0 W (.agg #[.bool b, m, .bool b', o]) q := by
 obtain ⟨m', e1, hm⟩ := hx
 obtain ⟨o', e2, ho⟩ := hy
 simp only [qba, qbg, qa5, qbF, and_true] at e1 e2
 obtain ⟨rfl, rfl⟩ := e1
 obtain ⟨rfl, rfl⟩ := e2
 subst h1 h2
 refine ⟨m, o, ?_, hm, by simpa using ho⟩
 rw [decide_eq_false (show ¬ (q.den : Int) < 0 by omega)]
theorem low_num (n d : Int) (hd : 0 < d) : (if n < 0 then -((n.natAbs / (n.natAbs.gcd d.natAbs : Nat) : Nat) : Int) else ((n.natAbs / (n.natAbs.gcd d.natAbs : Nat) : Nat) : Int)) = (Rat.divInt n d).num ∧ ((d.natAbs / (n.natAbs.gcd d.natAbs : Nat) : Nat) : Int) = ((Rat.divInt n d).den : Int) := by
 obtain ⟨h1, h2⟩ := qik n d (by omega)
 rw [h1, h2, decide_eq_false (show ¬ d < 0 by omega)]
 refine ⟨?_, rfl⟩
 by_cases h : n < 0
 ·rw [if_pos h, decide_eq_true h]; rfl
 ·rw [if_neg h, decide_eq_false h]; rfl
theorem qkM (n d : Int) (hd : 0 < d) (K : Nat) (hK : K ≤ 17592186000000) (v u : Value) (w : World) (hv : qcf w v n) (hu : qcf w u d) (fn : Fit n.natAbs K) (fd : Fit d.natAbs K) :
  Calls Tryz.prog 128 #[v, u] w fun e w' => ∃ u, e = .returned u ∧ Below w.heap.size w w' ∧ qc0 w' u (Rat.divInt n d) := by
 obtain ⟨l1, l2⟩ := low_num n d hd
 obtain ⟨G, hG⟩ : ∃ G, n.natAbs.gcd d.natAbs = G := ⟨_, rfl⟩
 have hG0 : 0 < G := by rw [← hG]; exact qbq _ (by omega)
 have hGf : Fit G K := fd.le (by rw [← hG]; exact Nat.gcd_le_right _ (by omega))
 have hGn : n.natAbs % G = 0 := by rw [← hG]; exact Nat.mod_eq_zero_of_dvd (qbY _ _)
 have hGd : d.natAbs % G = 0 := by rw [← hG]; exact Nat.mod_eq_zero_of_dvd (qbe _ _)
 rw [hG] at l1 l2
 have HG := qH (fun (W : World) (h : Below w.heap.size w W) => qgZ n d K hK v u W (hv.below h) (hu.below h) fn fd)
 have HG' : Hid (n.natAbs.gcd d.natAbs = G) := qH hG
 have HN := qH (fun (W : World) (g : Value) (h : Below w.heap.size w W) (hg : qcf W g (G : Int)) => qhg n G K hK v g W (hv.below h) hg fn (by simpa using hGf) (by omega) (by simpa using hGn))
 have HD := qH (fun (W : World) (g : Value) (h : Below w.heap.size w W) (hg : qcf W g (G : Int)) => qhg d G K hK u g W (hu.below h) hg fd (by simpa using hGf) (by omega) (by simpa using hGd))
 have HL := qH (qA l1 (qA l2 hd))
 obtain ⟨m, rfl, am, bm, om, cm, nm, M, rfl, _, _⟩ := hv
 obtain ⟨o, rfl, ao, bo, oo, co, no, O, rfl, _, _⟩ := hu
 rw [decide_eq_false (show ¬ d < 0 by omega)] at *
 generalize decide (n < 0) = b0 at *
 clear l1 l2 hG hG0 hGf hGn hGd fn fd
 obtain ⟨W1, hW1⟩ : ∃ W1, W1 = ((w.alloc (.cells #[.bool b0, .slice am nm cm] 121)).alloc (.cells #[.bool false, .slice ao no co] 121)).alloc (.cells #[.bool false, .slice none 0 0, .bool false, .slice none 0 0] 123) := ⟨_, rfl⟩
 have hb1 : Below w.heap.size w W1 := hW1 ▸ qb1 (qb1 (qb1 qB qN) qN) qN
 have hr0 : W1.heap[w.heap.size]? = some (.cells #[.bool b0, .slice am nm cm] 121 (0, 0)) := by rw [hW1, qL _ _ _ (by simp only [qab]; omega), qL _ _ _ (by simp only [qab]; omega)]; exact qM _ _ _ rfl
 have hr1 : W1.heap[w.heap.size + 1]? = some (.cells #[.bool false, .slice ao no co] 121 (0, 0)) := by rw [hW1, qL _ _ _ (by simp only [qab]; omega)]; exact qM _ _ _ (by simp)
 have hr2 : W1.heap[w.heap.size + 1 + 1]? = some (.cells #[.bool false, .slice none 0 0, .bool false, .slice none 0 0] 123 (0, 0)) := by rw [hW1]; exact qM _ _ _ (by simp)
 have HR := qH (qA hb1 (qA hr0 (qA hr1 hr2)))
 have k10 := cell_of_row W1 _ 0 _ _ _ hr1
 clear hr0 hr1 hr2 hb1
 go_enter Tryz.func128, Tryz.ntmps128
 go_wp2_with fail
 rw [← hW1]
 clear hW1
 go_wp2_with (first | ((with_reducible refine qb4 rfl 121 _ rfl (w.heap.size) ?_ 121 #[.bool b0, .slice am nm cm] _ HR.out.2.1 Tryz.underlying121 ?_ 2 ?_ ?_ ?_); (next => rfl); (next => rfl); (next => kernel_rfl); (next => rfl)) | ((with_reducible refine qb4 rfl 121 _ rfl (w.heap.size + 1) ?_ 121 #[.bool false, .slice ao no co] _ HR.out.2.2.1 Tryz.underlying121 ?_ 2 ?_ ?_ ?_); (next => rfl); (next => rfl); (next => kernel_rfl); (next => rfl)))
 refine (HG.out _ HR.out.1).mono ?_
 rintro e w2 ⟨vg, rfl, hb2, hvg⟩
 rw [HG'.out] at hvg
 obtain ⟨bg, ag, ng, cg, rfl⟩ := hvg.shape
 obtain ⟨W2, hW2⟩ : ∃ W2, W2 = w2.alloc (.cells #[.bool bg, .slice ag ng cg] 121) := ⟨_, rfl⟩
 have hb12 : Below W1.heap.size W1 W2 := hW2 ▸ qb1 hb2 qN
 have hvg2 : qcf W2 (.agg #[.bool bg, .slice ag ng cg]) (G : Int) := hvg.below (hW2 ▸ qb1 qB qN)
 have row : ∀ (g : Nat) (o : Obj), W1.heap[g]? = some o → W2.heap[g]? = some o := zkeep hb12
 have rg : W2.heap[w2.heap.size]? = some (.cells #[.bool bg, .slice ag ng cg] 121 (0, 0)) := by rw [hW2]; exact qM _ _ _ rfl
 have H2 := qH (qA (HR.out.1.trans (hb12.mono HR.out.1.size)) (qA (row _ _ HR.out.2.1) (qA (row _ _ HR.out.2.2.1) (qA (row _ _ HR.out.2.2.2) (qA rg hvg2)))))
 have HW2 := qH hW2
 clear hb2 hvg hb12 hvg2 row rg hW2 k10
 have F0 := H2.out.2.1
 have Fg := H2.out.2.2.2.2.1
 rw [HW2.out] at F0 Fg
 have H2a := qH (qA F0 Fg)
 clear F0 Fg
 go_wp2_with (first | ((with_reducible refine qgF rfl 121 _ _ rfl _ #[.bool bg, .slice ag ng cg] ?_ ?_ 2 ?_ ?_ ?_ ?_ ?_); (next => rfl); (next => rfl); (next => kernel_rfl); (next => rfl); (next => rfl); (next => rfl)) | ((with_reducible refine qb4 rfl 121 _ rfl (w.heap.size) ?_ 121 #[.bool b0, .slice am nm cm] _ H2a.out.1 Tryz.underlying121 ?_ 2 ?_ ?_ ?_); (next => rfl); (next => rfl); (next => kernel_rfl); (next => rfl)) | ((with_reducible refine qb4 rfl 121 _ rfl (w2.heap.size) ?_ 121 #[.bool bg, .slice ag ng cg] _ H2a.out.2 Tryz.underlying121 ?_ 2 ?_ ?_ ?_); (next => rfl); (next => rfl); (next => kernel_rfl); (next => rfl)))
 rw [← HW2.out]
 refine (HN.out _ _ H2.out.1 H2.out.2.2.2.2.2).mono ?_
 rintro e w4 ⟨p4, q4, rfl, hb4, hp4, hq4⟩
 obtain ⟨bp4, ap4, np4, cp4, rfl⟩ := hp4.shape
 obtain ⟨bq4, aq4, nq4, cq4, rfl⟩ := hq4.shape
 have hb14 : Below w.heap.size w w4 := H2.out.1.trans (hb4.mono H2.out.1.size)
 have row4 : ∀ (g : Nat) (o : Obj), W2.heap[g]? = some o → w4.heap[g]? = some o := zkeep hb4
 have H4 := qH (qA hb14 (qA (row4 _ _ H2.out.2.2.1) (qA (row4 _ _ H2.out.2.2.2.1) (qA (row4 _ _ H2.out.2.2.2.2.1) (qA (H2.out.2.2.2.2.2.below hb4) (qA hp4 hq4))))))
 clear hb4 hp4 hq4 hb14 row4
 obtain ⟨W5, hW5⟩ : ∃ W5, W5 = (w4.alloc (.cells #[.bool bp4, .slice ap4 np4 cp4] 121)).alloc (.cells #[.bool bq4, .slice aq4 nq4 cq4] 121) := ⟨_, rfl⟩
 have hb45 : Below w4.heap.size w4 W5 := hW5 ▸ qb1 (qb1 qB qN) qN
 have row5 : ∀ (g : Nat) (o : Obj), w4.heap[g]? = some o → W5.heap[g]? = some o := zkeep hb45
 have rp : W5.heap[w4.heap.size]? = some (.cells #[.bool bp4, .slice ap4 np4 cp4] 121 (0, 0)) := by rw [hW5, qL _ _ _ (by simp only [qab]; omega)]; exact qM _ _ _ rfl
 have H5 := qH (qA (H4.out.1.trans (hb45.mono H4.out.1.size)) (qA (row5 _ _ H4.out.2.1) (qA (row5 _ _ H4.out.2.2.1) (qA (row5 _ _ H4.out.2.2.2.1) (qA (H4.out.2.2.2.2.1.below hb45) (qA rp (H4.out.2.2.2.2.2.1.below hb45)))))))
 have F1 := H5.out.2.1
 have Fg := H5.out.2.2.2.1
 rw [hW5] at F1 Fg
 have H5a := qH (qA F1 Fg)
 have HW5 := qH hW5
 clear hb45 row5 rp F1 Fg hW5
 go_wp2_with (first | ((with_reducible refine qb4 rfl 121 _ rfl (w.heap.size + 1) ?_ 121 #[.bool false, .slice ao no co] _ H5a.out.1 Tryz.underlying121 ?_ 2 ?_ ?_ ?_); (next => rfl); (next => rfl); (next => kernel_rfl); (next => rfl)) | ((with_reducible refine qb4 rfl 121 _ rfl (w2.heap.size) ?_ 121 #[.bool bg, .slice ag ng cg] _ H5a.out.2 Tryz.underlying121 ?_ 2 ?_ ?_ ?_); (next => rfl); (next => rfl); (next => kernel_rfl); (next => rfl)))
 rw [← HW5.out]
 refine (HD.out _ _ H5.out.1 H5.out.2.2.2.2.1).mono ?_
 rintro e w6 ⟨p6, q6, rfl, hb6, hp6, hq6⟩
 obtain ⟨bp6, ap6, np6, cp6, rfl⟩ := hp6.shape
 obtain ⟨bq6, aq6, nq6, cq6, rfl⟩ := hq6.shape
 obtain ⟨W7, hW7⟩ : ∃ W7, W7 = (w6.alloc (.cells #[.bool bp6, .slice ap6 np6 cp6] 121)).alloc (.cells #[.bool bq6, .slice aq6 nq6 cq6] 121) := ⟨_, rfl⟩
 have hb67 : Below w6.heap.size w6 W7 := hW7 ▸ qb1 (qb1 qB qN) qN
 have hb57 : Below W5.heap.size W5 W7 := hb6.trans (hb67.mono hb6.size)
 have row7 : ∀ (g : Nat) (o : Obj), W5.heap[g]? = some o → W7.heap[g]? = some o := zkeep hb57
 have rp6 : W7.heap[w6.heap.size]? = some (.cells #[.bool bp6, .slice ap6 np6 cp6] 121 (0, 0)) := by rw [hW7, qL _ _ _ (by simp only [qab]; omega)]; exact qM _ _ _ rfl
 have hbw : Below w.heap.size w W7 := H5.out.1.trans (hb57.mono H5.out.1.size)
 have rr := row7 _ _ H5.out.2.2.1
 have hq := qiZ (q := Rat.divInt n d) (H5.out.2.2.2.2.2.2.below hb57) (hp6.below hb67) HL.out.1 (by rw [if_neg (show ¬ d < 0 by have := HL.out.2.2; omega), qat]; exact HL.out.2.1)
 have hbq6 : bp6 = false := by
  obtain ⟨m6, o6, h6, _⟩ := hq
  simp only [qba, qbg, qa5, qbF] at h6
  exact h6.2.2.1
 subst hbq6
 have hqs := qgz (cs' := #[.bool bp4, .slice ap4 np4 cp4, .bool false, .slice ap6 np6 cp6]) hq rr (nd4 _ _ _ _ _ _ _ _)
 have G0 := row7 _ _ H5.out.2.2.2.2.2.1
 have G1 := rp6
 have G2 := rr
 rw [hW7] at G0 G1 G2
 have H7 := qH (qA G0 (qA G1 (qA G2 (qA rr (qA hqs (below_setRow hbw (show w.heap.size ≤ w.heap.size + 1 + 1 by omega) #[.bool bp4, .slice ap4 np4 cp4, .bool false, .slice ap6 np6 cp6]))))))
 have HW7 := qH hW7
 clear hb6 hp6 hq6 hb67 hb57 row7 rp6 hbw rr hq hqs G0 G1 G2 hW7
 go_wp2_with (first | ((with_reducible refine qb4 rfl 121 _ rfl (w4.heap.size) ?_ 121 #[.bool bp4, .slice ap4 np4 cp4] _ H7.out.1 Tryz.underlying121 ?_ 2 ?_ ?_ ?_); (next => rfl); (next => rfl); (next => kernel_rfl); (next => rfl)) | ((with_reducible refine qb4 rfl 121 _ rfl (w6.heap.size) ?_ 121 #[.bool false, .slice ap6 np6 cp6] _ H7.out.2.1 Tryz.underlying121 ?_ 2 ?_ ?_ ?_); (next => rfl); (next => rfl); (next => kernel_rfl); (next => rfl)) | ((with_reducible refine wpList_store_row rfl 123 _ _ rfl (w.heap.size + 1 + 1) #[.bool bp4, .slice ap4 np4 cp4, .bool false, .slice ap6 np6 cp6] ?_ ?_ 123 _ H7.out.2.2.1 4 ?_ ?_ ?_ ?_ ?_); (next => rfl); (next => rfl); (next => kernel_rfl); (next => rfl); (next => rfl); (next => rfl)))
 rw [← HW7.out]
 exact bodyPost_ret (v := .agg #[.bool bp4, .slice ap4 np4 cp4, .bool false, .slice ap6 np6 cp6]) (qb9 rfl _ _ (w.heap.size + 1 + 1) 123 _ _ rfl (setRow_heap _ _ _ _ _ _ H7.out.2.2.2.1) Tryz.underlying123 rfl 4 (by kernel_rfl) rfl) rfl ⟨_, rfl, H7.out.2.2.2.2.2, H7.out.2.2.2.2.1⟩
theorem qmg (n d : Int) (hn : -9223372036854775808 ≤ n ∧ n ≤ 9223372036854775807) (hd : 0 < d) (hd2 : d ≤ 9223372036854775807) (w : World) :
  Calls Tryz.prog 78 #[.int .i64 n, .int .i64 d] w fun e w' => ∃ u, e = .returned u ∧ Below w.heap.size w w' ∧ qc0 w' u (Rat.divInt n d) := by
 have f5 : ∀ z : Int, -9223372036854775808 ≤ z → z ≤ 9223372036854775807 → Fit z.natAbs 5 := fun z h1 h2 => by
  show z.natAbs < 10000 ^ 5
  rw [show (10000 : Nat) ^ 5 = 100000000000000000000 by decide]; omega
 have HN := qH (fun (W : World) => qg7 n hn W)
 have HD := qH (fun (W : World) => qg7 d ⟨by omega, hd2⟩ W)
 have HL := qH (fun (W : World) (v u : Value) (hv : qcf W v n) (hu : qcf W u d) => qkM n d hd 5 (by decide) v u W hv hu (f5 n hn.1 hn.2) (f5 d (by omega) hd2))
 obtain ⟨W1, hW1⟩ : ∃ W1, W1 = w.alloc (.cells #[.bool false, .slice none 0 0, .bool false, .slice none 0 0] 123) := ⟨_, rfl⟩
 have hb1 : Below w.heap.size w W1 := hW1 ▸ qb1 qB qN
 have hr1 : W1.heap[w.heap.size]? = some (.cells #[.bool false, .slice none 0 0, .bool false, .slice none 0 0] 123 (0, 0)) := by rw [hW1]; exact qM _ _ _ rfl
 have H1 := qH (qA hb1 hr1)
 clear f5 hb1 hr1
 go_enter Tryz.func78, Tryz.ntmps78
 go_wp2_with fail
 rw [← hW1]
 clear hW1
 refine (HN.out _).mono ?_
 rintro e w2 ⟨v2, rfl, hb2, hv2⟩
 have H2 := qH (qA (H1.out.1.trans (hb2.mono H1.out.1.size)) (qA (zkeep hb2 _ _ H1.out.2) hv2))
 obtain ⟨bv2, av2, nv2, cv2, rfl⟩ := hv2.shape
 clear hb2 hv2
 go_wp2_with fail
 refine (HD.out _).mono ?_
 rintro e w3 ⟨v3, rfl, hb3, hv3⟩
 have H3 := qH (qA (H2.out.1.trans (hb3.mono H2.out.1.size)) (qA (zkeep hb3 _ _ H2.out.2.1) (qA (H2.out.2.2.below hb3) hv3)))
 obtain ⟨bv3, av3, nv3, cv3, rfl⟩ := hv3.shape
 clear hb3 hv3
 go_wp2_with fail
 refine (HL.out _ _ _ H3.out.2.2.1 H3.out.2.2.2).mono ?_
 rintro e w4 ⟨v4, rfl, hb4, hv4⟩
 obtain ⟨b4, a4, n4, c4, a5, n5, c5, rfl⟩ := hv4.shape
 have rr := zkeep hb4 _ _ H3.out.2.1
 have hbw := H3.out.1.trans (hb4.mono H3.out.1.size)
 have hqs := qgz (cs' := #[.bool b4, .slice a4 n4 c4, .bool false, .slice a5 n5 c5]) hv4 rr (nd4 _ _ _ _ _ _ _ _)
 have H4 := qH (qA rr (qA hqs (below_setRow hbw qN #[.bool b4, .slice a4 n4 c4, .bool false, .slice a5 n5 c5])))
 clear hb4 hv4 rr hbw hqs
 go_wp2_with ((with_reducible refine wpList_store_row rfl 123 _ _ rfl (w.heap.size) #[.bool b4, .slice a4 n4 c4, .bool false, .slice a5 n5 c5] ?_ ?_ 123 _ H4.out.1 4 ?_ ?_ ?_ ?_ ?_); (next => rfl); (next => rfl); (next => kernel_rfl); (next => rfl); (next => rfl); (next => rfl))
 exact bodyPost_ret (v := .agg #[.bool b4, .slice a4 n4 c4, .bool false, .slice a5 n5 c5]) (qb9 rfl _ _ (w.heap.size) 123 _ _ rfl (setRow_heap _ _ _ _ _ _ H4.out.1) Tryz.underlying123 rfl 4 (by kernel_rfl) rfl) rfl ⟨_, rfl, H4.out.2.2, H4.out.2.1⟩
end Go.Proofs.YtfminfgabiipjaaGreatDoor.p4
namespace Go.Proofs.YtfminfgabiipjaaGreatDoor.p4
open Go.RowKit Go.Lib
theorem conv4 (q0 q1 q2 q3 : UInt8) (n0 n1 n2 n3 : Int) (h0 : n0 = (q0.toNat : Nat)) (h1 : n1 = (q1.toNat : Nat)) (h2 : n2 = (q2.toNat : Nat)) (h3 : n3 = (q3.toNat : Nat)) (W : World) :
  (convert 27 9 (.slice (some ⟨W.heap.size, 0, none⟩) 4 4)).run Tryz.prog (W.alloc (.cells #[.int .u8 n0, .int .u8 n1, .int .u8 n2, .int .u8 n3] 5)) = .ok (.string ⟨#[q0, q1, q2, q3]⟩) (W.alloc (.cells #[.int .u8 n0, .int .u8 n1, .int .u8 n2, .int .u8 n3] 5)) := by
 subst h0 h1 h2 h3
 refine run_convert_bytes_back (P := Tryz.prog) _ 27 9 5 ⟨W.heap.size, 0, none⟩ 4 [q0, q1, q2, q3] Tryz.underlying27 Tryz.underlying5 Tryz.underlying9 ?_
 intro j hj
 have hg := heap_alloc_new W (.cells #[.int .u8 (q0.toNat : Nat), .int .u8 (q1.toNat : Nat), .int .u8 (q2.toNat : Nat), .int .u8 (q3.toNat : Nat)] 5)
 match j, hj with
 | 0, _ => exact cell_of_row _ _ 0 _ _ _ hg
 | 1, _ => exact cell_of_row _ _ 1 _ _ _ hg
 | 2, _ => exact cell_of_row _ _ 2 _ _ _ hg
 | 3, _ => exact cell_of_row _ _ 3 _ _ _ hg
def grp (d : Nat) : ByteArray := ⟨(padk 4 d).toArray⟩
theorem grp_size (d : Nat) : (grp d).size = 4 := by
 show (padk 4 d).toArray.size = 4
 rw [List.size_toArray, qgO]
theorem four_any (d : Nat) (hd : d < 10000) (w : World) :
  Calls Tryz.prog 188 #[.int .i64 (d : Int)] w fun e w' => e = .returned (.string (grp d)) ∧ Below w.heap.size w w' := by
 obtain ⟨a, ha⟩ : ∃ a, d / 1000 = a := ⟨_, rfl⟩
 obtain ⟨b, hb⟩ : ∃ b, d / 100 = b := ⟨_, rfl⟩
 obtain ⟨b', hb'⟩ : ∃ b', b % 10 = b' := ⟨_, rfl⟩
 obtain ⟨c, hc⟩ : ∃ c, d / 10 = c := ⟨_, rfl⟩
 obtain ⟨c', hc'⟩ : ∃ c', c % 10 = c' := ⟨_, rfl⟩
 obtain ⟨e, he⟩ : ∃ e, d % 10 = e := ⟨_, rfl⟩
 have hg : grp d = ⟨#[UInt8.ofNat (48 + a), UInt8.ofNat (48 + b'), UInt8.ofNat (48 + c'), UInt8.ofNat (48 + e)]⟩ := by
  unfold grp
  simp only [padk]
  rw [show d / 10 / 10 / 10 % 10 = a by omega, show d / 10 / 10 % 10 = b' by omega, show d / 10 % 10 = c' by omega, he]
  rfl
 have hcv := conv4 (UInt8.ofNat (48 + a)) (UInt8.ofNat (48 + b')) (UInt8.ofNat (48 + c')) (UInt8.ofNat (48 + e)) (48 + (a : Int)) (48 + (b' : Int)) (48 + (c' : Int)) (48 + (e : Int)) (by rw [qcG (by omega)]; omega) (by rw [qcG (by omega)]; omega) (by rw [qcG (by omega)]; omega) (by rw [qcG (by omega)]; omega) w
 rw [← hg] at hcv
 have t1 : (d : Int) / 1000 = a := by omega
 have t2 : (d : Int) / 100 = b := by omega
 have t3 : (b : Int) % 10 = b' := by omega
 have t4 : (d : Int) / 10 = c := by omega
 have t5 : (c : Int) % 10 = c' := by omega
 have t6 : (d : Int) % 10 = e := by omega
 have l1 : a < 10 := by omega
 have l2 : b < 100 := by omega
 have l3 : c < 1000 := by omega
 have l4 : b' < 10 := by omega
 have l5 : c' < 10 := by omega
 have l6 : e < 10 := by omega
 clear ha hb hb' hc hc' he hg
 generalize grp d = G at *
 go_enter Tryz.func188, Tryz.ntmps188
 go_wp2_with fail
 go_ret
 exact ⟨rfl, qb1 qB qN⟩
theorem ne_empty {a : ByteArray} (h : a.size ≠ 0) : a.toList.isEmpty = false := by
 rw [ByteArray.toList_eq]
 cases e : a.data.toList with
 | nil => exact absurd (show a.size = 0 by show a.data.size = 0; rw [← qbi, e]; rfl) h
 | cons x l => rfl
theorem qfg (z : Int) (K : Nat) (hK : K ≤ 17592186000000) (v : Value) (w : World) (hv : qcf w v z) (hz : Fit z.natAbs K) :
  Calls Tryz.prog 156 #[v] w fun e w' => e = .returned (.string (frac.wtxt z)) ∧ Below w.heap.size w w' := by
 obtain ⟨m, rfl, am, bm, om, cm, n, M, rfl, Im, hMx⟩ := hv
 have hn : n ≤ K := by rw [← hMx] at hz; exact hz.len Im
 obtain ⟨zc, hst⟩ := qlK Im.dig
 have hglen := qlJ M
 rw [Im.len] at hglen
 have hsg := frac.qfh (z := z)
 have hsp := frac.qdW (z := z)
 rw [hMx] at hst
 have Hsg := qH (qA hsg hsp)
 obtain ⟨WT, hWT⟩ : ∃ WT, frac.wtxt z = WT := ⟨_, rfl⟩
 rw [hWT]
 have HWT := qH hWT
 clear hWT
 have Hst := qH hst
 have Hgl := qH hglen
 have HM := qH Im
 have hb1 : Below w.heap.size w (w.alloc (.cells #[.bool (decide (z < 0)), .slice am n cm] 121)) := qb1 qB qN
 obtain ⟨bz, hbz⟩ : ∃ bz, decide (z < 0) = bz := ⟨_, rfl⟩
 rw [hbz] at hb1 ⊢
 have Hbz := qH hbz
 obtain ⟨W1, hW1⟩ : ∃ W1, W1 = w.alloc (.cells #[.bool bz, .slice am n cm] 121) := ⟨_, rfl⟩
 have hr1 : W1.heap[w.heap.size]? = some (.cells #[.bool bz, .slice am n cm] 121 (0, 0)) := by rw [hW1]; exact qM _ _ _ rfl
 rw [← hW1] at hb1
 have HW := qH (qA hb1 hr1)
 have hIm := Im.below hb1
 have HM1 := qH hIm
 clear hsg hsp hst hglen Im hMx hz hbz hb1 hIm
 go_enter Tryz.func156, Tryz.ntmps156
 go_wp2_with fail
 rw [← hW1]
 clear hW1
 have k1 := cell_of_row W1 _ 1 _ _ _ hr1
 clear hr1
 go_wp2_with fail
 go_loopw [3, 4] (fun x3 x4 W => ∃ (k : Nat) (zz : Int) (t : ByteArray), k ≤ n ∧ x4 = .int .i64 zz ∧ Hid (zz + 1 = k) ∧ x3 = .string t ∧ Hid (t.data.toList = gtx (M.drop k)) ∧ Hid (Below W1.heap.size W1 W)) (fun _ x4 _ => (RowKit.intOf x4 + 1).toNat)
 case atStart => exact ⟨n, _, ⟨#[]⟩, qaf _, rfl, qH (by omega), rfl, qH (by rw [qaB (by rw [HM.out.len]; exact qaf _)]; rfl), qH qB⟩
 case round =>
  obtain ⟨k, zz, t, hk, rfl, hzz, rfl, ht, hB⟩ := hrel
  have hrw := (hB.out.block w.heap.size (qG HW.out.2).1).trans HW.out.2
  have k1 := cell_of_row wr _ 1 _ _ _ hrw
  have k0 := cell_of_row wr _ 0 _ _ _ hrw
  have Hrw := qH hrw
  clear hrw
  by_cases hk0 : 0 < k
  ·obtain ⟨j, rfl⟩ : ∃ j, k = j + 1 := ⟨k - 1, by omega⟩
   obtain rfl : zz = (j : Int) := by have := hzz.out; omega
   have hji : (j : Int) < n := by omega
   have haw := HM.out.addr (by omega)
   subst haw
   have hcm := (HM1.out.below hB.out).cell j (by omega)
   have hdm : dg M j < 10000 := HM.out.dig j
   have hgd := gtx_drop (L := M) (j := j) (by rw [HM.out.len]; omega)
   obtain ⟨d, hd⟩ : ∃ d, dg M j = d := ⟨_, rfl⟩
   rw [hd] at hcm hdm hgd
   have hts : t.size = 4 * (n - (j + 1)) := by
    have : t.size = t.data.toList.length := by rw [qbi]; rfl
    rw [this, ht.out, qlJ, qaF, HM.out.len]
   have HF := qH (four_any d hdm)
   have hgs := grp_size d
   have hadd : ∀ W, (Op.stringOp .add t (grp d)).run Tryz.prog W = .ok (.string (t ++ grp d)) W := fun W => run_string_add_sum W _ _ (by omega)
   have hnew : (t ++ grp d).data.toList = gtx (M.drop j) := by
    rw [ByteArray.data_append, Array.toList_append, ht.out, hgd]; rfl
   have Hnew := qH hnew
   generalize grp d = G at *
   clear hnew hgs hts hgd hd hdm
   go_wp2_with (go_at_call 188; refine (HF.out _).mono ?_)
   rintro e w2 ⟨rfl, hb2⟩
   have Hb2 := qH hb2
   clear hb2
   go_wp2_with fail
   go_roundw
   case rel => exact ⟨j, _, _, by omega, rfl, qH (by omega), rfl, Hnew, qH (hB.out.trans (Hb2.out.mono hB.out.size))⟩
   case measure => simp [RowKit.intOf]
  ·obtain rfl : k = 0 := by omega
   obtain rfl : zz = -1 := by have := hzz.out; omega
   have ht2 := ht.out
   rw [qb0] at ht2
   have hts : t.size = 4 * n := by
    have : t.size = t.data.toList.length := by rw [qbi]; rfl
    rw [this, ht2, Hgl.out]
   rw [Hst.out] at ht2
   obtain ⟨R, hR⟩ : ∃ R, bare z.natAbs = R := ⟨_, rfl⟩
   rw [hR] at ht2
   have hlen : zc + R.length = 4 * n := by
    have h1 : t.size = t.data.toList.length := by rw [qbi]; rfl
    rw [← hts, h1, ht2, qaj, qaR]
   obtain ⟨N4, hN4⟩ : ∃ N4, 4 * n = N4 := ⟨_, rfl⟩
   rw [hN4] at hts hlen
   have hat : ∀ i (h : i < t.size), t[i] = (List.replicate zc 48 ++ R).getD i 0 := fun i h => by
    have : t[i] = t.data.toList[i]'(by rw [qbi]; exact h) := rfl
    rw [this, ← ht2, qac, qai (by rw [qbi]; exact h)]; rfl
   have hex : t.extract zc N4 = ⟨R.toArray⟩ := by
    apply ByteArray.ext
    rw [ByteArray.data_extract]
    apply Array.ext'
    rw [Array.toList_extract, ht2]
    simp only [List.extract, List.drop_append, qaR, qaN, qb0]
    rw [qaB (by rw [qaR]; exact qaf _), qbm, qal (by omega)]
   have hN5 : N4 ≤ 70368744000000 := by omega
   have Hat := qH hat
   have Hex := qH hex
   have HR := qH hR
   have Hl := qH hlen
   clear hat hex hR ht2 hN4
   go_wp2_with fail
   go_loopw [5] (fun x5 W => ∃ k : Nat, x5 = .int .i64 k ∧ k ≤ zc ∧ W = wr) (fun x5 _ => zc - (RowKit.intOf x5).toNat)
   case atStart => exact ⟨0, rfl, qar _, rfl⟩
   case round =>
    obtain ⟨k, rfl, hkz, hW⟩ := hrel
    have hW2 := hW.symm
    clear hW
    subst hW2
    by_cases hlt : k < zc
    ·have hsz : k < t.size := by have := Hl.out; omega
     have hkN : (k : Int) < N4 := by have := Hl.out; omega
     have hsc : (t[k]'hsz).toNat = 48 := by
      rw [Hat.out k hsz, qac, qay (by rw [qaR]; exact hlt), qbG, if_pos hlt]; rfl
     go_wp2_with fail
     go_roundw
     case rel => exact ⟨k + 1, by go_num, hlt, trivial⟩
     case measure => simp [RowKit.intOf]; omega
    ·obtain rfl : k = zc := by omega
     by_cases h0 : z.natAbs = 0
     ·have hRn : R = [] := by rw [← HR.out]; unfold bare; rw [if_pos h0]
      subst hRn
      have hkN : k = N4 := by have := Hl.out; simpa using this
      have hwz : frac.wtxt z = ⟨#[48]⟩ := by
       rw [Hsg.out.2 (by omega), h0]
       unfold num
       rw [qce (by decide)]; rfl
      have hex := Hex.out
      subst hkN
      rw [HWT.out] at hwz
      subst hwz
      go_wp2_with fail
      go_ret
      exact ⟨rfl, HW.out.1.trans (hB.out.mono HW.out.1.size)⟩
     ·have hRn : R = decDigits z.natAbs := by rw [← HR.out]; unfold bare; rw [if_neg h0]
      have hRl : R ≠ [] := by rw [hRn]; exact qea _
      have hR0 := List.length_pos_iff.2 hRl
      have hkN : (k : Int) < N4 := by have := Hl.out; omega
      have hkN2 : k ≤ N4 := by omega
      have hsz : k < t.size := by omega
      obtain ⟨c, hc⟩ : ∃ c, (t[k]'hsz).toNat = c := ⟨_, rfl⟩
      have hc48 : c ≠ 48 := by
       rintro rfl
       obtain ⟨x, l, hxl⟩ : ∃ x l, R = x :: l := by
        cases R with
        | nil => exact absurd rfl hRl
        | cons x l => exact ⟨x, l, rfl⟩
       have h1 := Hat.out k hsz
       rw [qac, qaE (by rw [qaR]; exact qaf _), qaR, qaN, hxl] at h1
       replace h1 : t[k] = x := h1
       rw [h1] at hc
       exact qlk (HR.out.trans hxl) (qf4 hc)
      have hcb : ((c : Int) == 48) = false := by rw [beq_eq_false_iff_ne]; omega
      have hex := Hex.out
      have hnum : (⟨R.toArray⟩ : ByteArray) = num z.natAbs := by rw [hRn]; rfl
      rw [hnum] at hex
      have hns : (num z.natAbs).size = R.length := by rw [hRn]; rfl
      have hne := ne_empty (a := num z.natAbs) (by omega)
      have hwn := Hsg.out.1
      have hwp := Hsg.out.2
      have Hwn : Hid (z < 0 → frac.wtxt z = ⟨#[45]⟩ ++ num z.natAbs) := qH hwn
      have Hwp : Hid (¬ z < 0 → frac.wtxt z = num z.natAbs) := qH fun h => hwp (by omega)
      clear hwn hwp
      generalize num z.natAbs = U at *
      have hadd : ∀ W, (Op.stringOp .add ⟨#[45]⟩ U).run Tryz.prog W = .ok (.string (⟨#[45]⟩ ++ U)) W := fun W => run_string_add_sum W _ _ (by have : (⟨#[45]⟩ : ByteArray).size = 1 := rfl; have := Hl.out; omega)
      obtain ⟨V, hV⟩ : ∃ V, (⟨#[45]⟩ : ByteArray) ++ U = V := ⟨_, rfl⟩
      rw [hV] at hadd Hwn
      clear hV hRn hRl hnum hc48 hns
      cases bz with
      | true =>
       have hlt0 : z < 0 := of_decide_eq_true Hbz.out
       have hVW : V = WT := by rw [← HWT.out, Hwn.out hlt0]
       subst hVW
       clear hlt0
       go_wp2_with fail
       go_ret
       exact ⟨rfl, HW.out.1.trans (hB.out.mono HW.out.1.size)⟩
      | false =>
       have hlt0 : ¬ z < 0 := of_decide_eq_false Hbz.out
       have hVW : U = WT := by rw [← HWT.out, Hwp.out hlt0]
       subst hVW
       clear hlt0
       go_wp2_with fail
       go_ret
       exact ⟨rfl, HW.out.1.trans (hB.out.mono HW.out.1.size)⟩
end Go.Proofs.YtfminfgabiipjaaGreatDoor.p4
