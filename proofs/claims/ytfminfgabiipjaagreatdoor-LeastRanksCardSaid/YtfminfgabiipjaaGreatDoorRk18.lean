/- Rk, part 18: Fr1 Fr2 -/
import Derived.Deep.DeepCutAuto
import Derived.Deep.QuietTactic
import Derived.Test.YtfminfgabiipjaaGreatDoorRk0
import Derived.Test.YtfminfgabiipjaaGreatDoorRk11
import Derived.Test.YtfminfgabiipjaaGreatDoorRk17
import Derived.Test.YtfminfgabiipjaaGreatDoorRk9
section
namespace Go.Proofs.YtfminfgabiipjaaGreatDoor
open Go.RowKit
structure FOk (n d : List UInt8) : Prop where
 vn : Valid n
 vd : Valid d
 pos : 0 < ival d
 cop : (ival n).natAbs.gcd (ival d).natAbs = 1
def RatAt (W : World) (v : Value) (z : Int) (d : Nat) : Prop := ∃ m o, v = .agg #[m, .bool (decide (z < 0)), o] ∧ MagAt W m z.natAbs ∧ MagAt W o d
theorem RatAt.below {W W' : World} {v : Value} {z : Int} {d : Nat} (h : RatAt W v z d) (hb : Below W.heap.size W W') : RatAt W' v z d := by
 obtain ⟨m, o, h1, h2, h3⟩ := h
 exact ⟨m, o, h1, h2.below hb, h3.below hb⟩
theorem balloc {B : Nat} {a W : World} {o : Obj} (h : Below B a W) (hB : B ≤ a.heap.size) : Below B a (W.alloc o) := h.alloc (Nat.le_trans hB h.size) o
theorem bjoin {B : Nat} {a W W' : World} (h : Below B a W) (k : Below W.heap.size W W') (hB : B = a.heap.size := by rfl) : Below B a W' := h.trans (k.mono (by rw [hB]; exact h.size))
theorem zkeep {W W' : World} (h : Below W.heap.size W W') : ∀ (g : Nat) (o : Obj), W.heap[g]? = some o → W'.heap[g]? = some o := fun g _ hg => (h.block g (qG hg).1).trans hg
theorem put_int {W : World} {g : Nat} {t : TypeId} (h : W.heap[g]? = some (.cells #[.slice none 0 0, .bool false] t (0, 0))) (a : Option Addr) (n c : Nat) (b : Bool) :
  ((W.setCell ⟨g, 0, none⟩ (.slice a n c)).setCell ⟨g, 1, none⟩ (.bool b)).heap[g]? = some (.cells #[.slice a n c, .bool b] t (0, 0)) ∧
  (∀ k, k ≠ g → ((W.setCell ⟨g, 0, none⟩ (.slice a n c)).setCell ⟨g, 1, none⟩ (.bool b)).heap[k]? = W.heap[k]?) ∧
  (∀ m b0 z, IntAt W (.agg #[m, .bool b0]) z → IntAt ((W.setCell ⟨g, 0, none⟩ (.slice a n c)).setCell ⟨g, 1, none⟩ (.bool b)) (.agg #[m, .bool b0]) z) :=
 ⟨frac.row_set2 h a n c b, fun k hk => (Below.heap_setCell _ _ _ _ hk).trans (Below.heap_setCell _ _ _ _ hk), fun _ _ _ hi => frac.int_set2 hi h a n c b⟩
theorem zdrew {W : World} {g : Nat} {o : Option Obj} (h : W.heap[g]? = o) : W.drew.heap[g]? = o := h
theorem zero_ne3 : ∀ x ∈ (#[.slice none 0 0, .bool false, .slice none 0 0] : Array Value).toList, ∀ d, x ≠ .int .u32 d := by
 intro x hx d
 rcases List.mem_cons.1 hx with rfl | hx
 ·intro h; cases h
 ·rcases List.mem_cons.1 hx with rfl | hx
  ·intro h; cases h
  ·rw [List.mem_singleton.1 hx]; intro h; cases h
def Two (W2 W : World) (g3 g4 : Nat) (v3 : Option Addr × Nat × Nat × Bool) (v4 : Option Addr × Nat × Nat × Bool) (z3 z4 : Int) : Prop :=
 W.heap[g3]? = some (.cells #[.slice v3.1 v3.2.1 v3.2.2.1, .bool v3.2.2.2] 136 (0, 0)) ∧ W.heap[g4]? = some (.cells #[.slice v4.1 v4.2.1 v4.2.2.1, .bool v4.2.2.2] 136 (0, 0)) ∧
  IntAt W (.agg #[.slice v3.1 v3.2.1 v3.2.2.1, .bool v3.2.2.2]) z3 ∧ IntAt W (.agg #[.slice v4.1 v4.2.1 v4.2.2.1, .bool v4.2.2.2]) z4 ∧ Below W2.heap.size W2 W
section
variable {W2 W : World} {a3 : Option Addr} {n3 c3 : Nat} {b3 : Bool} {a4 : Option Addr} {n4 c4 : Nat} {b4 : Bool} {z3 z4 : Int}
theorem two_aa (h : IntAt W (.agg #[.slice a3 n3 c3, .bool b3]) z3 ∧ IntAt W (.agg #[.slice a4 n4 c4, .bool b4]) z4) (hb : Below W2.heap.size W2 W) :
  Two W2 ((W.alloc (.cells #[.slice a3 n3 c3, .bool b3] 136)).alloc (.cells #[.slice a4 n4 c4, .bool b4] 136)) W.heap.size (W.heap.size + 1) (a3, n3, c3, b3) (a4, n4, c4, b4) z3 z4 :=
 have k := balloc (balloc (Below.refl W.heap.size W) qN) qN
 ⟨(qL _ _ _ (by simp only [World.size_alloc]; omega)).trans (qM _ _ _ rfl), qM _ _ _ (by simp only [World.size_alloc]), h.1.below k, h.2.below k, balloc (balloc hb qN) qN⟩
theorem two_bb (h : IntAt W (.agg #[.slice a3 n3 c3, .bool b3]) z3 ∧ IntAt W (.agg #[.slice a4 n4 c4, .bool b4]) z4) (hb : Below W2.heap.size W2 W) :
  Two W2 ((W.alloc (.cells #[.slice a4 n4 c4, .bool b4] 136)).alloc (.cells #[.slice a3 n3 c3, .bool b3] 136)) (W.heap.size + 1) W.heap.size (a3, n3, c3, b3) (a4, n4, c4, b4) z3 z4 :=
 have k := balloc (balloc (Below.refl W.heap.size W) qN) qN
 ⟨qM _ _ _ (by simp only [World.size_alloc]), (qL _ _ _ (by simp only [World.size_alloc]; omega)).trans (qM _ _ _ rfl), h.1.below k, h.2.below k, balloc (balloc hb qN) qN⟩
theorem two_pa {g : Nat} (h : IntAt W (.agg #[.slice a3 n3 c3, .bool b3]) z3 ∧ IntAt W (.agg #[.slice a4 n4 c4, .bool b4]) z4) (hb : Below W2.heap.size W2 W) (hg : W2.heap.size ≤ g) (hz : W.heap[g]? = some (.cells #[.slice none 0 0, .bool false] 136 (0, 0))) :
  Two W2 (((W.setCell ⟨g, 0, none⟩ (.slice a3 n3 c3)).setCell ⟨g, 1, none⟩ (.bool b3)).alloc (.cells #[.slice a4 n4 c4, .bool b4] 136)) g W.heap.size (a3, n3, c3, b3) (a4, n4, c4, b4) z3 z4 := by
 obtain ⟨p1, p2, p3⟩ := put_int hz a3 n3 c3 b3
 have lt := (qG hz).1
 have k : ∀ V : World, Below V.heap.size V (V.alloc (.cells #[.slice a4 n4 c4, .bool b4] 136)) := fun V => balloc qB qN
 exact ⟨(qL _ _ _ (by simp only [World.size_setCell]; exact lt)).trans p1, qM _ _ _ (by simp only [World.size_setCell]), (p3 _ _ _ h.1).below (k _), (p3 _ _ _ h.2).below (k _), balloc ((hb.setCell (by exact hg) _).setCell (by exact hg) _) qN⟩
theorem two_pb {g : Nat} (h : IntAt W (.agg #[.slice a3 n3 c3, .bool b3]) z3 ∧ IntAt W (.agg #[.slice a4 n4 c4, .bool b4]) z4) (hb : Below W2.heap.size W2 W) (hg : W2.heap.size ≤ g) (hz : W.heap[g]? = some (.cells #[.slice none 0 0, .bool false] 136 (0, 0))) :
  Two W2 (((W.setCell ⟨g, 0, none⟩ (.slice a4 n4 c4)).setCell ⟨g, 1, none⟩ (.bool b4)).alloc (.cells #[.slice a3 n3 c3, .bool b3] 136)) W.heap.size g (a3, n3, c3, b3) (a4, n4, c4, b4) z3 z4 := by
 obtain ⟨p1, p2, p3⟩ := put_int hz a4 n4 c4 b4
 have lt := (qG hz).1
 have k : ∀ V : World, Below V.heap.size V (V.alloc (.cells #[.slice a3 n3 c3, .bool b3] 136)) := fun V => balloc qB qN
 exact ⟨qM _ _ _ (by simp only [World.size_setCell]), (qL _ _ _ (by simp only [World.size_setCell]; exact lt)).trans p1, (p3 _ _ _ h.1).below (k _), (p3 _ _ _ h.2).below (k _), balloc ((hb.setCell (by exact hg) _).setCell (by exact hg) _) qN⟩
theorem two_pp {g g' : Nat} (h : IntAt W (.agg #[.slice a3 n3 c3, .bool b3]) z3 ∧ IntAt W (.agg #[.slice a4 n4 c4, .bool b4]) z4) (hb : Below W2.heap.size W2 W) (hg : W2.heap.size ≤ g) (hg' : W2.heap.size ≤ g') (hne : g ≠ g') (hz : W.heap[g]? = some (.cells #[.slice none 0 0, .bool false] 136 (0, 0))) (hz' : W.heap[g']? = some (.cells #[.slice none 0 0, .bool false] 136 (0, 0))) :
  Two W2 ((((W.setCell ⟨g, 0, none⟩ (.slice a3 n3 c3)).setCell ⟨g, 1, none⟩ (.bool b3)).setCell ⟨g', 0, none⟩ (.slice a4 n4 c4)).setCell ⟨g', 1, none⟩ (.bool b4)) g g' (a3, n3, c3, b3) (a4, n4, c4, b4) z3 z4 := by
 obtain ⟨p1, p2, p3⟩ := put_int hz a3 n3 c3 b3
 obtain ⟨q1, q2, q3⟩ := put_int ((p2 g' (Ne.symm hne)).trans hz') a4 n4 c4 b4
 exact ⟨(q2 g hne).trans p1, q1, q3 _ _ _ (p3 _ _ _ h.1), q3 _ _ _ (p3 _ _ _ h.2), (((hb.setCell (by exact hg) _).setCell (by exact hg) _).setCell (by exact hg') _).setCell (by exact hg') _⟩
end
def FReadsAs (w : World) (n d : List UInt8) (e : Ending) (w' : World) : Prop := ∃ v ok, e = .returned (.tuple #[v, .bool ok]) ∧ (ok = true ∧ FOk n d ∧ RatAt w' v (ival n) (ival d).natAbs ∨ ok = false ∧ ¬ FOk n d ∧ v = .agg #[.slice none 0 0, .bool false, .slice none 0 0]) ∧ Below w.heap.size w w'
set_option maxRecDepth 100000 in
set_option maxHeartbeats 2000000 in
theorem fread_any (n d : ByteArray) (w : World) :
  Calls Tryz.prog 105 #[.agg #[.string n, .string d]] w fun e w' => FReadsAs w n.data.toList d.data.toList e w' := by
 have hc1 := fun W => wcheck_any n W
 have hc2 := fun W => wcheck_any d W
 obtain ⟨W1, hW1⟩ : ∃ W1, W1 = (w.alloc (.cells #[.string n, .string d] 46)).alloc (.cells #[.slice none 0 0, .bool false, .slice none 0 0] 138) := ⟨_, rfl⟩
 have hb1 : Below w.heap.size w W1 := hW1 ▸ (qB.alloc qN _).alloc (by simp only [World.size_alloc]; omega) _
 have hr0 : W1.heap[w.heap.size]? = some (.cells #[.string n, .string d] 46 (0, 0)) := by rw [hW1, qL _ _ _ (by simp only [World.size_alloc]; omega)]; exact qM _ _ _ rfl
 have hr1 : W1.heap[w.heap.size + 1]? = some (.cells #[.slice none 0 0, .bool false, .slice none 0 0] 138 (0, 0)) := by rw [hW1]; exact qM _ _ _ (by simp)
 have l1 : w.heap.size + 1 < W1.heap.size := (qG hr1).1
 have HC1 := qH hc1
 have HC2 := qH hc2
 have HR := qH (qA hb1 (qA hr0 (qA hr1 l1)))
 clear hc1 hc2 hb1 hr0 hr1 l1
 have HRow : Hid (∀ W, Below W1.heap.size W1 W → W.heap[w.heap.size]? = some (.cells #[.string n, .string d] 46 (0, 0)) ∧ W.heap[w.heap.size + 1]? = some (.cells #[.slice none 0 0, .bool false, .slice none 0 0] 138 (0, 0))) := qH fun W h => ⟨(h.block _ (by have := HR.out.2.2.2; omega)).trans HR.out.2.1, (h.block _ HR.out.2.2.2).trans HR.out.2.2.1⟩
 go_enter Tryz.func105, Tryz.ntmps105
 go_wp2_with fail
 rw [← hW1]
 clear hW1
 refine (HC1.out _).mono ?_
 rintro e w1 ⟨c1, rfl, hk1, hb1⟩
 rcases hk1 with ⟨rfl, hv1⟩ | ⟨rfl, hv1⟩
 ·have d1 := cell_of_row w1 _ 1 _ _ _ (HRow.out w1 hb1).1
  have H1 := qH (qA hb1 hv1)
  clear hb1 hv1
  go_wp2_with fail
  refine (HC2.out _).mono ?_
  rintro e w2 ⟨c2, rfl, hk2, hb2⟩
  have hb2' : Below W1.heap.size W1 w2 := H1.out.1.trans (hb2.mono H1.out.1.size)
  clear hb2
  rcases hk2 with ⟨rfl, hv2⟩ | ⟨rfl, hv2⟩
  ·have hst : Below w2.heap.size w2 w2 := Below.refl _ _
   have hstD : Below w2.heap.size w2 w2.drew := hst.drew
   have hdr2 : w2.drew.heap.size = w2.heap.size := rfl
   have hrow2 := HRow.out w2 hb2'
   have l0 : w.heap.size < w2.heap.size := (qG hrow2.1).1
   have C0 : ∀ W, Below w2.heap.size w2 W → W.cell? ⟨w.heap.size, 0, none⟩ = some (.string n) := fun W h => (h.cell (p := ⟨w.heap.size, 0, none⟩) l0).trans (cell_of_row _ _ 0 _ _ _ hrow2.1)
   have C1 : ∀ W, Below w2.heap.size w2 W → W.cell? ⟨w.heap.size, 1, none⟩ = some (.string d) := fun W h => (h.cell (p := ⟨w.heap.size, 1, none⟩) l0).trans (cell_of_row _ _ 1 _ _ _ hrow2.1)
   have hn1 := fun W => frac.number_any n H1.out.2 W
   have hn2 := fun W => frac.number_any d hv2 W
   have HN1 := qH hn1
   have HN2 := qH hn2
   have H2 := qH (qA hb2' (qA hv2 hrow2))
   clear hn1 hn2 hb2' hv2 hrow2
   go_wp2_with fail
   have hdr3 : ∀ W : World, W.drew.heap.size = W.heap.size := fun _ => rfl
   go_cut [4, 5] (fun x4 x5 W => ∃ (g3 g4 : Nat) (a3 : Option Addr) (n3 c3 : Nat) (b3 : Bool) (a4 : Option Addr) (n4 c4 : Nat) (b4 : Bool), x4 = .pointer (some ⟨g3, 0, none⟩) ∧ x5 = .pointer (some ⟨g4, 0, none⟩) ∧ Two w2 W g3 g4 (a3, n3, c3, b3) (a4, n4, c4, b4) (ival n.data.toList) (ival d.data.toList))
   case first =>
    go_region_held3 (fun W => Below w2.heap.size w2 W) (first | with_reducible exact hst | with_reducible exact hstD | with_reducible exact HB4 | with_reducible exact HB3 | ((repeat (first | refine Below.setCell ?_ (by first | exact Nat.le_refl _ | exact HB3.size | exact HB4.size | exact Nat.le_succ_of_le qN | exact Nat.le_succ_of_le HB3.size | exact Nat.le_succ_of_le HB4.size) _ | refine balloc ?_ qN | refine Below.drew ?_)); first | exact HB4 | exact HB3 | exact hst)) (first | (go_at_call_of 152 (Value.string n); refine (HN1.out _).mono ?_; rintro e w3 ⟨p3, rfl, hb3, hp3⟩; have HB3 : Below w2.heap.size w2 w3 := bjoin (by ((repeat (first | refine Below.setCell ?_ (by first | exact Nat.le_refl _ | exact HB3.size | exact HB4.size | exact Nat.le_succ_of_le qN | exact Nat.le_succ_of_le HB3.size | exact Nat.le_succ_of_le HB4.size) _ | refine balloc ?_ qN | refine Below.drew ?_)); first | exact hst)) hb3; obtain ⟨a3, n3, c3, b3, rfl⟩ := frac.int_shape hp3; have HP3 := qH hp3; obtain ⟨k3, k3f⟩ := bcell hb3; have Z3 := qH (zkeep hb3); have s3 : _ ≤ _ := hb3.size; (try simp only [World.size_alloc, hdr2, hdr3, World.size_setCell] at s3); (try have q3 : w2.heap.size < w3.heap.size := by omega); (try have r3 : w2.heap.size + 1 < w3.heap.size := by omega); clear hb3 hp3) | (go_at_call_of 152 (Value.string d); refine (HN2.out _).mono ?_; rintro e w4 ⟨p4, rfl, hb4, hp4⟩; have HB4 : Below w2.heap.size w2 w4 := bjoin (by ((repeat (first | refine Below.setCell ?_ (by first | exact Nat.le_refl _ | exact HB3.size | exact HB4.size | exact Nat.le_succ_of_le qN | exact Nat.le_succ_of_le HB3.size | exact Nat.le_succ_of_le HB4.size) _ | refine balloc ?_ qN | refine Below.drew ?_)); first | exact HB3)) hb4; obtain ⟨a4, n4, c4, b4, rfl⟩ := frac.int_shape hp4; have HP4 := qH (qA (show IntAt w4 _ _ from (by first | exact HP3.out.below hb4 | exact (HP3.out.below (balloc qB qN)).below hb4 | exact (HP3.out.below (balloc (balloc qB qN) qN)).below hb4)) hp4); obtain ⟨k4, k4f⟩ := bcell hb4; have Z4 := qH (zkeep hb4); have s4 : _ ≤ _ := hb4.size; (try simp only [World.size_alloc, hdr2, hdr3, World.size_setCell] at s4); (try have q4 : w2.heap.size < w4.heap.size := by omega); (try have r4 : w2.heap.size + 1 < w4.heap.size := by omega); (try have t4 : w3.heap.size < w4.heap.size := by omega); (try have u4 : w3.heap.size + 1 < w4.heap.size := by omega); clear hb4 hp4))
    all_goals go_wp2_with fail
    all_goals go_meet
    all_goals refine ⟨_, _, a3, n3, c3, b3, a4, n4, c4, b4, rfl, rfl, ?_⟩
    all_goals first
     | with_reducible exact two_aa HP4.out HB4
     | with_reducible exact two_bb HP4.out HB4
     | (with_reducible refine two_pa HP4.out HB4 ?_ ?_; (first | exact Nat.le_refl _ | exact HB3.size | exact HB4.size | exact Nat.le_succ _ | exact Nat.le_succ_of_le HB3.size); (refine Z4.out _ _ ?_; ((try with_reducible refine zdrew ?_); first | (refine qM _ _ _ ?_; ((try simp only [World.size_alloc, hdr3]) <;> omega)) | (refine Z3.out _ _ ?_; ((try with_reducible refine zdrew ?_); first | (refine qM _ _ _ ?_; ((try simp only [World.size_alloc, hdr3]) <;> omega)) | (refine (qL _ _ _ ?_).trans ?_; ((try simp only [World.size_alloc, hdr3]); omega); (refine qM _ _ _ ?_; ((try simp only [World.size_alloc, hdr3]) <;> omega))))) | (refine (qL _ _ _ ?_).trans ?_; ((try simp only [World.size_alloc, hdr3]); omega); (first | (refine qM _ _ _ ?_; ((try simp only [World.size_alloc, hdr3]) <;> omega)) | (refine Z3.out _ _ ?_; ((try with_reducible refine zdrew ?_); first | (refine qM _ _ _ ?_; ((try simp only [World.size_alloc, hdr3]) <;> omega)) | (refine (qL _ _ _ ?_).trans ?_; ((try simp only [World.size_alloc, hdr3]); omega); (refine qM _ _ _ ?_; ((try simp only [World.size_alloc, hdr3]) <;> omega))))))) | (refine (qL _ _ _ ?_).trans ?_; ((try simp only [World.size_alloc, hdr3]); omega); refine (qL _ _ _ ?_).trans ?_; ((try simp only [World.size_alloc, hdr3]); omega); (refine Z3.out _ _ ?_; ((try with_reducible refine zdrew ?_); first | (refine qM _ _ _ ?_; ((try simp only [World.size_alloc, hdr3]) <;> omega)) | (refine (qL _ _ _ ?_).trans ?_; ((try simp only [World.size_alloc, hdr3]); omega); (refine qM _ _ _ ?_; ((try simp only [World.size_alloc, hdr3]) <;> omega)))))))))
     | (with_reducible refine two_pb HP4.out HB4 ?_ ?_; (first | exact Nat.le_refl _ | exact HB3.size | exact HB4.size | exact Nat.le_succ _ | exact Nat.le_succ_of_le HB3.size); (refine Z4.out _ _ ?_; ((try with_reducible refine zdrew ?_); first | (refine qM _ _ _ ?_; ((try simp only [World.size_alloc, hdr3]) <;> omega)) | (refine Z3.out _ _ ?_; ((try with_reducible refine zdrew ?_); first | (refine qM _ _ _ ?_; ((try simp only [World.size_alloc, hdr3]) <;> omega)) | (refine (qL _ _ _ ?_).trans ?_; ((try simp only [World.size_alloc, hdr3]); omega); (refine qM _ _ _ ?_; ((try simp only [World.size_alloc, hdr3]) <;> omega))))) | (refine (qL _ _ _ ?_).trans ?_; ((try simp only [World.size_alloc, hdr3]); omega); (first | (refine qM _ _ _ ?_; ((try simp only [World.size_alloc, hdr3]) <;> omega)) | (refine Z3.out _ _ ?_; ((try with_reducible refine zdrew ?_); first | (refine qM _ _ _ ?_; ((try simp only [World.size_alloc, hdr3]) <;> omega)) | (refine (qL _ _ _ ?_).trans ?_; ((try simp only [World.size_alloc, hdr3]); omega); (refine qM _ _ _ ?_; ((try simp only [World.size_alloc, hdr3]) <;> omega))))))) | (refine (qL _ _ _ ?_).trans ?_; ((try simp only [World.size_alloc, hdr3]); omega); refine (qL _ _ _ ?_).trans ?_; ((try simp only [World.size_alloc, hdr3]); omega); (refine Z3.out _ _ ?_; ((try with_reducible refine zdrew ?_); first | (refine qM _ _ _ ?_; ((try simp only [World.size_alloc, hdr3]) <;> omega)) | (refine (qL _ _ _ ?_).trans ?_; ((try simp only [World.size_alloc, hdr3]); omega); (refine qM _ _ _ ?_; ((try simp only [World.size_alloc, hdr3]) <;> omega)))))))))
     | (with_reducible refine two_pp HP4.out HB4 ?_ ?_ ?_ ?_ ?_; (first | exact Nat.le_refl _ | exact HB3.size | exact HB4.size | exact Nat.le_succ _ | exact Nat.le_succ_of_le HB3.size); (first | exact Nat.le_refl _ | exact HB3.size | exact HB4.size | exact Nat.le_succ _ | exact Nat.le_succ_of_le HB3.size); omega; (refine Z4.out _ _ ?_; ((try with_reducible refine zdrew ?_); first | (refine qM _ _ _ ?_; ((try simp only [World.size_alloc, hdr3]) <;> omega)) | (refine Z3.out _ _ ?_; ((try with_reducible refine zdrew ?_); first | (refine qM _ _ _ ?_; ((try simp only [World.size_alloc, hdr3]) <;> omega)) | (refine (qL _ _ _ ?_).trans ?_; ((try simp only [World.size_alloc, hdr3]); omega); (refine qM _ _ _ ?_; ((try simp only [World.size_alloc, hdr3]) <;> omega))))) | (refine (qL _ _ _ ?_).trans ?_; ((try simp only [World.size_alloc, hdr3]); omega); (first | (refine qM _ _ _ ?_; ((try simp only [World.size_alloc, hdr3]) <;> omega)) | (refine Z3.out _ _ ?_; ((try with_reducible refine zdrew ?_); first | (refine qM _ _ _ ?_; ((try simp only [World.size_alloc, hdr3]) <;> omega)) | (refine (qL _ _ _ ?_).trans ?_; ((try simp only [World.size_alloc, hdr3]); omega); (refine qM _ _ _ ?_; ((try simp only [World.size_alloc, hdr3]) <;> omega))))))) | (refine (qL _ _ _ ?_).trans ?_; ((try simp only [World.size_alloc, hdr3]); omega); refine (qL _ _ _ ?_).trans ?_; ((try simp only [World.size_alloc, hdr3]); omega); (refine Z3.out _ _ ?_; ((try with_reducible refine zdrew ?_); first | (refine qM _ _ _ ?_; ((try simp only [World.size_alloc, hdr3]) <;> omega)) | (refine (qL _ _ _ ?_).trans ?_; ((try simp only [World.size_alloc, hdr3]); omega); (refine qM _ _ _ ?_; ((try simp only [World.size_alloc, hdr3]) <;> omega)))))))); (refine Z4.out _ _ ?_; ((try with_reducible refine zdrew ?_); first | (refine qM _ _ _ ?_; ((try simp only [World.size_alloc, hdr3]) <;> omega)) | (refine Z3.out _ _ ?_; ((try with_reducible refine zdrew ?_); first | (refine qM _ _ _ ?_; ((try simp only [World.size_alloc, hdr3]) <;> omega)) | (refine (qL _ _ _ ?_).trans ?_; ((try simp only [World.size_alloc, hdr3]); omega); (refine qM _ _ _ ?_; ((try simp only [World.size_alloc, hdr3]) <;> omega))))) | (refine (qL _ _ _ ?_).trans ?_; ((try simp only [World.size_alloc, hdr3]); omega); (first | (refine qM _ _ _ ?_; ((try simp only [World.size_alloc, hdr3]) <;> omega)) | (refine Z3.out _ _ ?_; ((try with_reducible refine zdrew ?_); first | (refine qM _ _ _ ?_; ((try simp only [World.size_alloc, hdr3]) <;> omega)) | (refine (qL _ _ _ ?_).trans ?_; ((try simp only [World.size_alloc, hdr3]); omega); (refine qM _ _ _ ?_; ((try simp only [World.size_alloc, hdr3]) <;> omega))))))) | (refine (qL _ _ _ ?_).trans ?_; ((try simp only [World.size_alloc, hdr3]); omega); refine (qL _ _ _ ?_).trans ?_; ((try simp only [World.size_alloc, hdr3]); omega); (refine Z3.out _ _ ?_; ((try with_reducible refine zdrew ?_); first | (refine qM _ _ _ ?_; ((try simp only [World.size_alloc, hdr3]) <;> omega)) | (refine (qL _ _ _ ?_).trans ?_; ((try simp only [World.size_alloc, hdr3]); omega); (refine qM _ _ _ ?_; ((try simp only [World.size_alloc, hdr3]) <;> omega)))))))))
   case rest =>
    obtain ⟨g3, g4, a3, n3, c3, b3, a4, n4, c4, b4, rfl, rfl, h3, h4, hi3, hi4, hb⟩ := hcut
    dsimp only at h3 h4 hi3 hi4
    have e30 := cell_of_row wc _ 0 _ _ _ h3
    have e31 := cell_of_row wc _ 1 _ _ _ h3
    have e40 := cell_of_row wc _ 0 _ _ _ h4
    have e41 := cell_of_row wc _ 1 _ _ _ h4
    have hsgn := frac.sign_any _ _ wc hi4
    have HS := qH hsgn
    have HH := qH (qA h3 (qA h4 (qA hi3 (qA hi4 hb))))
    have hrow5 : wc.heap[w.heap.size + 1]? = some (.cells #[.slice none 0 0, .bool false, .slice none 0 0] 138 (0, 0)) := (hb.block _ (qG H2.out.2.2.2).1).trans H2.out.2.2.2
    have H5 := qH (qA hrow5 (HR.out.1.trans ((H2.out.1.trans (hb.mono H2.out.1.size)).mono HR.out.1.size)))
    clear h3 h4 hi3 hi4 hb hsgn hrow5 C0 C1
    go_wp2_with fail
    refine HS.out.mono ?_
    rintro e w5 ⟨rfl, hb5⟩
    have HB5 := qH hb5
    have H6 := qH (qA ((hb5.block _ (qG H5.out.1).1).trans H5.out.1) (H5.out.2.trans (hb5.mono H5.out.2.size)))
    have hi3 := HH.out.2.2.1.below hb5
    have hi4 := HH.out.2.2.2.1.below hb5
    have h3 := (hb5.block _ (qG HH.out.1).1).trans HH.out.1
    have h4 := (hb5.block _ (qG HH.out.2.1).1).trans HH.out.2.1
    clear hb5 e30 e31 e40 e41
    by_cases hpos : 0 < ival d.data.toList
    ·rw [show cmp3 (ival d.data.toList) 0 = 1 by unfold cmp3; rw [if_neg (by omega), if_neg (by omega)]]
     have e30 := cell_of_row w5 _ 0 _ _ _ h3
     have e40 := cell_of_row w5 _ 0 _ _ _ h4
     obtain ⟨m3, hm3, hg3⟩ := hi3
     obtain ⟨m4, hm4, hg4⟩ := hi4
     have hm3' : m3 = .slice a3 n3 c3 := by simp only [Value.agg.injEq, Array.mk.injEq, List.cons.injEq] at hm3; exact hm3.1.symm
     have hm4' : m4 = .slice a4 n4 c4 := by simp only [Value.agg.injEq, Array.mk.injEq, List.cons.injEq] at hm4; exact hm4.1.symm
     have hb3v : b3 = decide (ival n.data.toList < 0) := by simp only [Value.agg.injEq, Array.mk.injEq, List.cons.injEq, Value.bool.injEq] at hm3; exact hm3.2.1
     subst hm3' hm4'
     have hf3 := H1.out.2.fit
     have hf4 := H2.out.2.1.fit
     have hgc := frac.gcd_any (ival n.data.toList).natAbs (ival d.data.toList).natAbs 67 (by decide) _ _ w5 hg3 hg4 hf3 hf4
     have HGC := qH hgc
     have HG := qH (qA hg3 (qA hg4 (qA h3 (qA h4 hb3v))))
     clear hgc hg3 hg4 h3 h4 hm3 hm4 hb3v
     go_wp2_with fail
     refine HGC.out.mono ?_
     rintro e w7 ⟨vg, rfl, hb7, hvg⟩
     have hk0 : Fit 1 67 := Fit.mono (show Fit 1 1 from (by show 1 < 1000000000 ^ 1; decide)) (by decide)
     have hgf : Fit ((ival n.data.toList).natAbs.gcd (ival d.data.toList).natAbs) 67 := hf4.le (Nat.gcd_le_right _ (by omega))
     have hcp := frac.compare_any ((ival n.data.toList).natAbs.gcd (ival d.data.toList).natAbs) 1 67 (by decide) vg (.slice (some ⟨w7.heap.size, 0, none⟩) 1 1) (w7.alloc (.cells #[.int .u32 (1 : Int)] 106)) (hvg.below (qB.alloc qN _)) (lit_mag w7 _ (by decide) (by decide)) hgf hk0
     obtain ⟨cr, hcr⟩ : ∃ cr, cmp3 (((ival n.data.toList).natAbs.gcd (ival d.data.toList).natAbs : Nat) : Int) ((1 : Nat) : Int) = cr := ⟨_, rfl⟩
     have hcr0 : cr = 0 ↔ (ival n.data.toList).natAbs.gcd (ival d.data.toList).natAbs = 1 := by
      rw [← hcr]; unfold cmp3
      constructor
      ·intro h
       split at h
       ·omega
       ·split at h
        ·omega
        ·omega
      ·intro h
       rw [if_neg (by omega), if_pos (by omega)]
     rw [hcr] at hcp
     have HCP := qH hcp
     have HCR := qH hcr0
     have HB7 := qH hb7
     obtain ⟨ag, bg, og, cg, ng, Mg, rfl, _, _⟩ := hvg
     clear hcp hcr hcr0 hb7 hk0 hgf e30 e40
     go_wp2_with fail
     refine HCP.out.mono ?_
     rintro e w8 ⟨rfl, hb8⟩
     have hb58 : Below w5.heap.size w5 w8 := HB7.out.trans (((qB.alloc qN _ : Below w7.heap.size w7 (w7.alloc (.cells #[.int .u32 (1 : Int)] 106))).trans (hb8.mono (by simp only [World.size_alloc]; omega))).mono HB7.out.size)
     have H8 := qH (qA ((hb58.block _ (qG H6.out.1).1).trans H6.out.1) (H6.out.2.trans (hb58.mono H6.out.2.size)))
     by_cases hg1 : (ival n.data.toList).natAbs.gcd (ival d.data.toList).natAbs = 1
     ·have hcr : cr = 0 := HCR.out.2 hg1
      have HY : Hid (FOk n.data.toList d.data.toList) := qH ⟨H1.out.2, H2.out.2.1, hpos, hg1⟩
      have h3 := (hb58.block _ (qG HG.out.2.2.1).1).trans HG.out.2.2.1
      have h4 := (hb58.block _ (qG HG.out.2.2.2.1).1).trans HG.out.2.2.2.1
      have e30 := cell_of_row w8 _ 0 _ _ _ h3
      have e31 := cell_of_row w8 _ 1 _ _ _ h3
      have e40 := cell_of_row w8 _ 0 _ _ _ h4
      have HM3 := qH (mag_setRow (cs' := #[.slice a3 n3 c3, .bool b3, .slice a4 n4 c4]) (HG.out.1.below hb58) H8.out.1 zero_ne3)
      have HM4 := qH (mag_setRow (cs' := #[.slice a3 n3 c3, .bool b3, .slice a4 n4 c4]) (HG.out.2.1.below hb58) H8.out.1 zero_ne3)
      subst hcr
      clear h3 h4 hb8 hb58 hg1
      go_wp2_with ((with_reducible refine wpList_store_row rfl 138 _ _ rfl (w.heap.size + 1) #[.slice a3 n3 c3, .bool b3, .slice a4 n4 c4] ?_ ?_ 138 _ H8.out.1 3 ?_ ?_ ?_ ?_ ?_); (next => rfl); (next => rfl); (next => kernel_rfl); (next => rfl); (next => rfl); (next => rfl))
      exact bodyPost_ret (v := .tuple #[.agg #[.slice a3 n3 c3, .bool b3, .slice a4 n4 c4], .bool true]) (results_row2 rfl _ _ (w.heap.size + 1) 138 _ _ rfl (setRow_heap _ _ _ _ _ _ H8.out.1) Tryz.underlying138 rfl 3 (by kernel_rfl) rfl _ rfl) rfl ⟨_, _, rfl, Or.inl ⟨rfl, HY.out, _, _, by rw [HG.out.2.2.2.2], HM3.out, HM4.out⟩, below_setRow H8.out.2 (by omega) _⟩
     ·have HN : Hid (¬ FOk n.data.toList d.data.toList) := qH (fun h => hg1 h.cop)
      have hcr : ((cr : Int) == 0) = false := by rw [beq_eq_false_iff_ne]; exact fun h => hg1 (HCR.out.1 h)
      have hcr2 : ¬ cr = 0 := fun h => hg1 (HCR.out.1 h)
      clear hb8 hb58 hg1
      go_wp2_with ((with_reducible refine wpList_store_row rfl 138 _ _ rfl (w.heap.size + 1) #[.slice none 0 0, .bool false, .slice none 0 0] ?_ ?_ 138 _ H8.out.1 3 ?_ ?_ ?_ ?_ ?_); (next => rfl); (next => rfl); (next => kernel_rfl); (next => rfl); (next => rfl); (next => rfl))
      exact bodyPost_ret (v := .tuple #[.agg #[.slice none 0 0, .bool false, .slice none 0 0], .bool false]) (results_row2 rfl _ _ (w.heap.size + 1) 138 _ _ rfl (setRow_heap _ _ _ _ _ _ H8.out.1) Tryz.underlying138 rfl 3 (by kernel_rfl) rfl _ rfl) rfl ⟨_, _, rfl, Or.inr ⟨rfl, HN.out, rfl⟩, below_setRow H8.out.2 (by omega) _⟩
    ·have HN : Hid (¬ FOk n.data.toList d.data.toList) := qH (fun h => hpos h.pos)
     have hc1 : cmp3 (ival d.data.toList) 0 < 1 := by unfold cmp3; split <;> (try split) <;> omega
     generalize cmp3 (ival d.data.toList) 0 = cr at *
     go_wp2_with ((with_reducible refine wpList_store_row rfl 138 _ _ rfl (w.heap.size + 1) #[.slice none 0 0, .bool false, .slice none 0 0] ?_ ?_ 138 _ H6.out.1 3 ?_ ?_ ?_ ?_ ?_); (next => rfl); (next => rfl); (next => kernel_rfl); (next => rfl); (next => rfl); (next => rfl))
     exact bodyPost_ret (v := .tuple #[.agg #[.slice none 0 0, .bool false, .slice none 0 0], .bool false]) (results_row2 rfl _ _ (w.heap.size + 1) 138 _ _ rfl (setRow_heap _ _ _ _ _ _ H6.out.1) Tryz.underlying138 rfl 3 (by kernel_rfl) rfl _ rfl) rfl ⟨_, _, rfl, Or.inr ⟨rfl, HN.out, rfl⟩, below_setRow H6.out.2 (by omega) _⟩
  ·have HX := qH (qA ((HRow.out w2 hb2').2) (HR.out.1.trans (hb2'.mono HR.out.1.size)))
   have HN : Hid (¬ FOk n.data.toList d.data.toList) := qH (fun h => hv2 h.vd)
   go_wp2_with ((with_reducible refine wpList_store_row rfl 138 _ _ rfl (w.heap.size + 1) #[.slice none 0 0, .bool false, .slice none 0 0] ?_ ?_ 138 _ HX.out.1 3 ?_ ?_ ?_ ?_ ?_); (next => rfl); (next => rfl); (next => kernel_rfl); (next => rfl); (next => rfl); (next => rfl))
   exact bodyPost_ret (v := .tuple #[.agg #[.slice none 0 0, .bool false, .slice none 0 0], .bool false]) (results_row2 rfl _ _ (w.heap.size + 1) 138 _ _ rfl (setRow_heap _ _ _ _ _ _ HX.out.1) Tryz.underlying138 rfl 3 (by kernel_rfl) rfl _ rfl) rfl ⟨_, _, rfl, Or.inr ⟨rfl, HN.out, rfl⟩, below_setRow HX.out.2 (by omega) _⟩
 ·have HX := qH (qA ((HRow.out w1 hb1).2) (HR.out.1.trans (hb1.mono HR.out.1.size)))
  have HN : Hid (¬ FOk n.data.toList d.data.toList) := qH (fun h => hv1 h.vn)
  go_wp2_with ((with_reducible refine wpList_store_row rfl 138 _ _ rfl (w.heap.size + 1) #[.slice none 0 0, .bool false, .slice none 0 0] ?_ ?_ 138 _ HX.out.1 3 ?_ ?_ ?_ ?_ ?_); (next => rfl); (next => rfl); (next => kernel_rfl); (next => rfl); (next => rfl); (next => rfl))
  exact bodyPost_ret (v := .tuple #[.agg #[.slice none 0 0, .bool false, .slice none 0 0], .bool false]) (results_row2 rfl _ _ (w.heap.size + 1) 138 _ _ rfl (setRow_heap _ _ _ _ _ _ HX.out.1) Tryz.underlying138 rfl 3 (by kernel_rfl) rfl _ rfl) rfl ⟨_, _, rfl, Or.inr ⟨rfl, HN.out, rfl⟩, below_setRow HX.out.2 (by omega) _⟩
end Go.Proofs.YtfminfgabiipjaaGreatDoor
end
section
namespace Go.Proofs.YtfminfgabiipjaaGreatDoor
open Go.RowKit
def RatV (W : World) (v : Value) (q : Rat) : Prop := RatAt W v q.num q.den
theorem RatV.below {W W' : World} {v : Value} {q : Rat} (h : RatV W v q) (hb : Below W.heap.size W W') : RatV W' v q := RatAt.below h hb
theorem rat_shape {W : World} {v : Value} {z : Int} {d : Nat} (h : RatAt W v z d) : ∃ (a : Option Addr) (n c : Nat) (b : Bool) (d' : Option Addr) (e f : Nat), v = .agg #[.slice a n c, .bool b, .slice d' e f] := by
 obtain ⟨m, o, rfl, ⟨am, bm, om, cm, n, M, rfl, _, _⟩, ⟨ao, bo, oo, co, no, O, rfl, _, _⟩⟩ := h
 exact ⟨am, n, cm, _, ao, no, co, rfl⟩
def RFit (q : Rat) (K : Nat) : Prop := Fit q.num.natAbs K ∧ Fit q.den K
theorem row_set3 {W : World} {g : Nat} {t : TypeId} (h : W.heap[g]? = some (.cells #[.slice none 0 0, .bool false, .slice none 0 0] t (0, 0))) (a : Option Addr) (n c : Nat) (b : Bool) (d : Option Addr) (e f : Nat) :
  (((W.setCell ⟨g, 0, none⟩ (.slice a n c)).setCell ⟨g, 1, none⟩ (.bool b)).setCell ⟨g, 2, none⟩ (.slice d e f)).heap[g]? = some (.cells #[.slice a n c, .bool b, .slice d e f] t (0, 0)) :=
 heap_setCell_same _ g 2 _ t _ (heap_setCell_same _ g 1 _ t _ (heap_setCell_same _ g 0 _ t _ h))
theorem rat_set3 {W : World} {v : Value} {q : Rat} {g : Nat} {t : TypeId} (hi : RatV W v q) (h : W.heap[g]? = some (.cells #[.slice none 0 0, .bool false, .slice none 0 0] t (0, 0))) (a : Option Addr) (n c : Nat) (b : Bool) (d : Option Addr) (e f : Nat) :
  RatV (((W.setCell ⟨g, 0, none⟩ (.slice a n c)).setCell ⟨g, 1, none⟩ (.bool b)).setCell ⟨g, 2, none⟩ (.slice d e f)) v q := by
 obtain ⟨m, o, h1, h2, h3⟩ := hi
 have hk : W.grownBy (((W.setCell ⟨g, 0, none⟩ (.slice a n c)).setCell ⟨g, 1, none⟩ (.bool b)).setCell ⟨g, 2, none⟩ (.slice d e f)) (some g) := keep_trans (keep_trans (frac.set_keep W g 0 _) (frac.set_keep _ g 1 _)) (frac.set_keep _ g 2 _)
 exact ⟨m, o, h1, mag_keep h2 hk h zero_ne3, mag_keep h3 hk h zero_ne3⟩
set_option maxRecDepth 100000 in
set_option maxHeartbeats 2000000 in
theorem rmul_any (p q : Rat) (K : Nat) (hK : K ≤ 68719476736) (v u : Value) (w : World) (hv : RatV w v p) (hu : RatV w u q) (hp : RFit p K) (hq : RFit q K) :
  Calls Tryz.prog 102 #[v, u] w fun e w' => ∃ r, e = .returned r ∧ Below w.heap.size w w' ∧ RatV w' r (p * q) := by
 obtain ⟨mx, mX, rfl, hx, hX⟩ := hv
 obtain ⟨my, mY, rfl, hy, hY⟩ := hu
 obtain ⟨x, hxe⟩ : ∃ x, p.num.natAbs = x := ⟨_, rfl⟩
 obtain ⟨y, hye⟩ : ∃ y, q.num.natAbs = y := ⟨_, rfl⟩
 obtain ⟨X, hXe⟩ : ∃ X, p.den = X := ⟨_, rfl⟩
 obtain ⟨Y, hYe⟩ : ∃ Y, q.den = Y := ⟨_, rfl⟩
 have hlow := mul_low p.reduced q.reduced (Nat.pos_of_ne_zero p.den_nz) (Nat.pos_of_ne_zero q.den_nz)
 have hX0 : 0 < X := hXe ▸ Nat.pos_of_ne_zero p.den_nz
 have hY0 : 0 < Y := hYe ▸ Nat.pos_of_ne_zero q.den_nz
 obtain ⟨fx, fX⟩ := hp
 obtain ⟨fy, fY⟩ := hq
 rw [hxe] at hx fx
 rw [hye] at hy fy
 rw [hXe] at hX fX
 rw [hYe] at hY fY
 rw [hxe, hye, hXe, hYe] at hlow
 have hg0 : 0 < x.gcd Y := Nat.gcd_pos_of_pos_right _ hY0
 have hh0 : 0 < y.gcd X := Nat.gcd_pos_of_pos_right _ hX0
 have fg : Fit (x.gcd Y) K := fY.le (Nat.gcd_le_right _ hY0)
 have fh : Fit (y.gcd X) K := fX.le (Nat.gcd_le_right _ hX0)
 have hres : ∀ (W : World) (m o : Value), IntAt W m (if (decide (p.num < 0) != decide (q.num < 0)) = true then -((x / x.gcd Y * (y / y.gcd X) : Nat) : Int) else ((x / x.gcd Y * (y / y.gcd X) : Nat) : Int)) → MagAt W o (X / y.gcd X * (Y / x.gcd Y)) → ∃ a n c b d e f, m = .agg #[.slice a n c, .bool b] ∧ o = .slice d e f ∧ RatV W (.agg #[.slice a n c, .bool b, .slice d e f]) (p * q) := by
  intro W m o hm ho
  obtain ⟨zz, hzz⟩ : ∃ zz, (if (decide (p.num < 0) != decide (q.num < 0)) = true then -((x / x.gcd Y * (y / y.gcd X) : Nat) : Int) else ((x / x.gcd Y * (y / y.gcd X) : Nat) : Int)) = zz := ⟨_, rfl⟩
  have hza : zz.natAbs = x / x.gcd Y * (y / y.gcd X) := by rw [← hzz]; split <;> omega
  have hnd : X / y.gcd X * (Y / x.gcd Y) ≠ 0 := by
   have h1 := Nat.div_pos (Nat.le_of_dvd hX0 (Nat.gcd_dvd_right y X)) hh0
   have h2 := Nat.div_pos (Nat.le_of_dvd hY0 (Nat.gcd_dvd_right x Y)) hg0
   exact Nat.ne_of_gt (Nat.mul_pos h1 h2)
  have hq := rat_mul (p := p) (q := q) (z := zz) (d := X / y.gcd X * (Y / x.gcd Y)) hnd (by rw [hza]; exact hlow.1) (by
   have h2 := hlow.2
   have e1 : ((x / x.gcd Y * (y / y.gcd X) : Nat) : Int) * (X * Y : Nat) = ((x * y : Nat) : Int) * (X / y.gcd X * (Y / x.gcd Y) : Nat) := by rw [← Int.natCast_mul, ← Int.natCast_mul, h2]
   have e2 : p.num * q.num = if (decide (p.num < 0) != decide (q.num < 0)) = true then -((x * y : Nat) : Int) else ((x * y : Nat) : Int) := by
    rw [← hxe, ← hye]; exact (frac.sg_mul p.num q.num).symm
   rw [hXe, hYe, e2, ← hzz]
   split
   ·rw [Int.neg_mul, Int.neg_mul, e1]
   ·exact e1)
  rw [hzz] at hm
  obtain ⟨a, n, c, b, rfl⟩ := frac.int_shape hm
  obtain ⟨m', hm1, hm2⟩ := hm
  obtain ⟨ao, bo, oo, co, no, O, rfl, Io, hO⟩ := ho
  refine ⟨a, n, c, b, ao, no, co, rfl, rfl, m', .slice ao no co, ?_, ?_, ?_⟩
  ·simp only [Value.agg.injEq, Array.mk.injEq, List.cons.injEq] at hm1
   rw [hq.1, ← hm1.1, ← hm1.2.1]
  ·rw [hq.1]; exact hm2
  ·rw [hq.2]; exact ⟨ao, bo, oo, co, no, O, rfl, Io, hO⟩
 have HRES := qH hres
 generalize decide (p.num < 0) = b0 at *
 generalize decide (q.num < 0) = b1 at *
 have HX := qH (qA hx (qA hX (qA hy hY)))
 have HF := qH (qA fx (qA fX (qA fy fY)))
 have HP := qH (qA hX0 (qA hY0 (qA hg0 (qA hh0 (qA fg fh)))))
 have HK := qH hK
 obtain ⟨a0, _, _, c0, n0, _, rfl, _, _⟩ := hx
 obtain ⟨d0, _, _, f0, e0, _, rfl, _, _⟩ := hX
 obtain ⟨a1, _, _, c1, n1, _, rfl, _, _⟩ := hy
 obtain ⟨d1, _, _, f1, e1, _, rfl, _, _⟩ := hY
 clear hlow hres hX0 hY0 hg0 hh0 fg fh fx fX fy fY hK hxe hye hXe hYe
 obtain ⟨W1, hW1⟩ : ∃ W1, W1 = ((w.alloc (.cells #[.slice a0 n0 c0, .bool b0, .slice d0 e0 f0] 138)).alloc (.cells #[.slice a1 n1 c1, .bool b1, .slice d1 e1 f1] 138)).alloc (.cells #[.slice none 0 0, .bool false, .slice none 0 0] 138) := ⟨_, rfl⟩
 have hb1 : Below w.heap.size w W1 := hW1 ▸ balloc (balloc (balloc qB qN) qN) qN
 have hr0 : W1.heap[w.heap.size]? = some (.cells #[.slice a0 n0 c0, .bool b0, .slice d0 e0 f0] 138 (0, 0)) := by rw [hW1, qL _ _ _ (by simp only [World.size_alloc]; omega), qL _ _ _ (by simp only [World.size_alloc]; omega)]; exact qM _ _ _ (by simp)
 have hr1 : W1.heap[w.heap.size + 1]? = some (.cells #[.slice a1 n1 c1, .bool b1, .slice d1 e1 f1] 138 (0, 0)) := by rw [hW1, qL _ _ _ (by simp only [World.size_alloc]; omega)]; exact qM _ _ _ (by simp)
 have hr2 : W1.heap[w.heap.size + 1 + 1]? = some (.cells #[.slice none 0 0, .bool false, .slice none 0 0] 138 (0, 0)) := by rw [hW1]; exact qM _ _ _ (by simp)
 have l2 : w.heap.size + 1 + 1 < W1.heap.size := (qG hr2).1
 have C00 : ∀ W, Below (w.heap.size + 1 + 1) W1 W → W.cell? ⟨w.heap.size, 0, none⟩ = some (.slice a0 n0 c0) := fun W h => (h.cell (p := ⟨w.heap.size, 0, none⟩) (by show w.heap.size < _; omega)).trans (cell_of_row _ _ 0 _ _ _ hr0)
 have C01 : ∀ W, Below (w.heap.size + 1 + 1) W1 W → W.cell? ⟨w.heap.size, 1, none⟩ = some (.bool b0) := fun W h => (h.cell (p := ⟨w.heap.size, 1, none⟩) (by show w.heap.size < _; omega)).trans (cell_of_row _ _ 1 _ _ _ hr0)
 have C02 : ∀ W, Below (w.heap.size + 1 + 1) W1 W → W.cell? ⟨w.heap.size, 2, none⟩ = some (.slice d0 e0 f0) := fun W h => (h.cell (p := ⟨w.heap.size, 2, none⟩) (by show w.heap.size < _; omega)).trans (cell_of_row _ _ 2 _ _ _ hr0)
 have C10 : ∀ W, Below (w.heap.size + 1 + 1) W1 W → W.cell? ⟨w.heap.size + 1, 0, none⟩ = some (.slice a1 n1 c1) := fun W h => (h.cell (p := ⟨w.heap.size + 1, 0, none⟩) (by show w.heap.size + 1 < _; omega)).trans (cell_of_row _ _ 0 _ _ _ hr1)
 have C11 : ∀ W, Below (w.heap.size + 1 + 1) W1 W → W.cell? ⟨w.heap.size + 1, 1, none⟩ = some (.bool b1) := fun W h => (h.cell (p := ⟨w.heap.size + 1, 1, none⟩) (by show w.heap.size + 1 < _; omega)).trans (cell_of_row _ _ 1 _ _ _ hr1)
 have C12 : ∀ W, Below (w.heap.size + 1 + 1) W1 W → W.cell? ⟨w.heap.size + 1, 2, none⟩ = some (.slice d1 e1 f1) := fun W h => (h.cell (p := ⟨w.heap.size + 1, 2, none⟩) (by show w.heap.size + 1 < _; omega)).trans (cell_of_row _ _ 2 _ _ _ hr1)
 have HR := qH (qA hb1 hr2)
 have Hl2 := qH l2
 clear hr0 hr1 hr2 hb1
 go_enter Tryz.func102, Tryz.ntmps102
 go_wp2_with fail
 rw [← hW1]
 clear hW1
 refine (frac.gcd_any x Y K (by have := HK.out; omega) _ _ W1 (HX.out.1.below HR.out.1) (HX.out.2.2.2.below HR.out.1) HF.out.1 HF.out.2.2.2).mono ?_
 rintro e w2 ⟨vg, rfl, hb, hv⟩
 have Mw2_g := qH hv
 have Hw2 : Hid (Below w.heap.size w w2 ∧ Below (w.heap.size + 1 + 1) W1 w2) := qH ⟨HR.out.1.trans (hb.mono HR.out.1.size), hb.mono (Nat.le_of_lt Hl2.out)⟩
 have Rw2 := qH ((hb.block _ (qG HR.out.2).1).trans HR.out.2)
 obtain ⟨sg, _, _, ug, tg, _, rfl, _, _⟩ := hv
 clear hb
 have k00 := C00 w2 Hw2.out.2
 have k01 := C01 w2 Hw2.out.2
 have k02 := C02 w2 Hw2.out.2
 have k10 := C10 w2 Hw2.out.2
 have k11 := C11 w2 Hw2.out.2
 have k12 := C12 w2 Hw2.out.2
 go_wp2_with fail
 refine (frac.gcd_any y X K (by have := HK.out; omega) _ _ w2 (HX.out.2.2.1.below Hw2.out.1) (HX.out.2.1.below Hw2.out.1) HF.out.2.2.1 HF.out.2.1).mono ?_
 rintro e w3 ⟨vh, rfl, hb, hv⟩
 have Mw3_g := qH (Mw2_g.out.below hb)
 have Mw3_h := qH hv
 have Hw3 : Hid (Below w.heap.size w w3 ∧ Below (w.heap.size + 1 + 1) W1 w3) := qH ⟨Hw2.out.1.trans (hb.mono Hw2.out.1.size), (Hw2.out.2).trans (hb.mono (Nat.le_trans (Nat.le_of_lt Hl2.out) (Hw2.out.2).size))⟩
 have Rw3 := qH ((hb.block _ (qG Rw2.out).1).trans Rw2.out)
 obtain ⟨sh, _, _, uh, th, _, rfl, _, _⟩ := hv
 clear hb
 clear k00
 have k00 := C00 w3 Hw3.out.2
 clear k01
 have k01 := C01 w3 Hw3.out.2
 clear k02
 have k02 := C02 w3 Hw3.out.2
 clear k10
 have k10 := C10 w3 Hw3.out.2
 clear k11
 have k11 := C11 w3 Hw3.out.2
 clear k12
 have k12 := C12 w3 Hw3.out.2
 go_wp2_with fail
 refine (frac.divide_any x (x.gcd Y) K (by have := HK.out; omega) _ _ w3 (HX.out.1.below Hw3.out.1) Mw3_g.out HF.out.1 HP.out.2.2.2.2.1 HP.out.2.2.1).mono ?_
 rintro e w4 ⟨va, _, rfl, hb, hv, _⟩
 have Mw4_g := qH (Mw3_g.out.below hb)
 have Mw4_h := qH (Mw3_h.out.below hb)
 have Mw4_a := qH hv
 have Hw4 : Hid (Below w.heap.size w w4 ∧ Below (w.heap.size + 1 + 1) W1 w4) := qH ⟨Hw3.out.1.trans (hb.mono Hw3.out.1.size), (Hw3.out.2).trans (hb.mono (Nat.le_trans (Nat.le_of_lt Hl2.out) (Hw3.out.2).size))⟩
 have Rw4 := qH ((hb.block _ (qG Rw3.out).1).trans Rw3.out)
 obtain ⟨sa, _, _, ua, ta, _, rfl, _, _⟩ := hv
 clear hb
 clear k00
 have k00 := C00 w4 Hw4.out.2
 clear k01
 have k01 := C01 w4 Hw4.out.2
 clear k02
 have k02 := C02 w4 Hw4.out.2
 clear k10
 have k10 := C10 w4 Hw4.out.2
 clear k11
 have k11 := C11 w4 Hw4.out.2
 clear k12
 have k12 := C12 w4 Hw4.out.2
 go_wp2_with fail
 refine (frac.divide_any X (y.gcd X) K (by have := HK.out; omega) _ _ w4 (HX.out.2.1.below Hw4.out.1) Mw4_h.out HF.out.2.1 HP.out.2.2.2.2.2 HP.out.2.2.2.1).mono ?_
 rintro e w5 ⟨vb, _, rfl, hb, hv, _⟩
 have Mw5_g := qH (Mw4_g.out.below hb)
 have Mw5_h := qH (Mw4_h.out.below hb)
 have Mw5_a := qH (Mw4_a.out.below hb)
 have Mw5_b := qH hv
 have Hw5 : Hid (Below w.heap.size w w5 ∧ Below (w.heap.size + 1 + 1) W1 w5) := qH ⟨Hw4.out.1.trans (hb.mono Hw4.out.1.size), (Hw4.out.2).trans (hb.mono (Nat.le_trans (Nat.le_of_lt Hl2.out) (Hw4.out.2).size))⟩
 have Rw5 := qH ((hb.block _ (qG Rw4.out).1).trans Rw4.out)
 obtain ⟨sb, _, _, ub, tb, _, rfl, _, _⟩ := hv
 clear hb
 clear k00
 have k00 := C00 w5 Hw5.out.2
 clear k01
 have k01 := C01 w5 Hw5.out.2
 clear k02
 have k02 := C02 w5 Hw5.out.2
 clear k10
 have k10 := C10 w5 Hw5.out.2
 clear k11
 have k11 := C11 w5 Hw5.out.2
 clear k12
 have k12 := C12 w5 Hw5.out.2
 go_wp2_with fail
 refine (frac.divide_any y (y.gcd X) K (by have := HK.out; omega) _ _ w5 (HX.out.2.2.1.below Hw5.out.1) Mw5_h.out HF.out.2.2.1 HP.out.2.2.2.2.2 HP.out.2.2.2.1).mono ?_
 rintro e w6 ⟨vc, _, rfl, hb, hv, _⟩
 have Mw6_g := qH (Mw5_g.out.below hb)
 have Mw6_h := qH (Mw5_h.out.below hb)
 have Mw6_a := qH (Mw5_a.out.below hb)
 have Mw6_b := qH (Mw5_b.out.below hb)
 have Mw6_c := qH hv
 have Hw6 : Hid (Below w.heap.size w w6 ∧ Below (w.heap.size + 1 + 1) W1 w6) := qH ⟨Hw5.out.1.trans (hb.mono Hw5.out.1.size), (Hw5.out.2).trans (hb.mono (Nat.le_trans (Nat.le_of_lt Hl2.out) (Hw5.out.2).size))⟩
 have Rw6 := qH ((hb.block _ (qG Rw5.out).1).trans Rw5.out)
 obtain ⟨sc, _, _, uc, tc, _, rfl, _, _⟩ := hv
 clear hb
 clear k00
 have k00 := C00 w6 Hw6.out.2
 clear k01
 have k01 := C01 w6 Hw6.out.2
 clear k02
 have k02 := C02 w6 Hw6.out.2
 clear k10
 have k10 := C10 w6 Hw6.out.2
 clear k11
 have k11 := C11 w6 Hw6.out.2
 clear k12
 have k12 := C12 w6 Hw6.out.2
 go_wp2_with fail
 refine (frac.divide_any Y (x.gcd Y) K (by have := HK.out; omega) _ _ w6 (HX.out.2.2.2.below Hw6.out.1) Mw6_g.out HF.out.2.2.2 HP.out.2.2.2.2.1 HP.out.2.2.1).mono ?_
 rintro e w7 ⟨vd, _, rfl, hb, hv, _⟩
 have Mw7_g := qH (Mw6_g.out.below hb)
 have Mw7_h := qH (Mw6_h.out.below hb)
 have Mw7_a := qH (Mw6_a.out.below hb)
 have Mw7_b := qH (Mw6_b.out.below hb)
 have Mw7_c := qH (Mw6_c.out.below hb)
 have Mw7_d := qH hv
 have Hw7 : Hid (Below w.heap.size w w7 ∧ Below (w.heap.size + 1 + 1) W1 w7) := qH ⟨Hw6.out.1.trans (hb.mono Hw6.out.1.size), (Hw6.out.2).trans (hb.mono (Nat.le_trans (Nat.le_of_lt Hl2.out) (Hw6.out.2).size))⟩
 have Rw7 := qH ((hb.block _ (qG Rw6.out).1).trans Rw6.out)
 obtain ⟨sd, _, _, ud, td, _, rfl, _, _⟩ := hv
 clear hb
 clear k00
 have k00 := C00 w7 Hw7.out.2
 clear k01
 have k01 := C01 w7 Hw7.out.2
 clear k02
 have k02 := C02 w7 Hw7.out.2
 clear k10
 have k10 := C10 w7 Hw7.out.2
 clear k11
 have k11 := C11 w7 Hw7.out.2
 clear k12
 have k12 := C12 w7 Hw7.out.2
 have HT1 := qH (fun (W : World) (h : Below w7.heap.size w7 W) => frac.times_any (x / x.gcd Y) (y / y.gcd X) K K (by have := HK.out; omega) (.slice sa ta ua) (.slice sc tc uc) W (Mw7_a.out.below h) (Mw7_c.out.below h) (HF.out.1.le (Nat.div_le_self _ _)) (HF.out.2.2.1.le (Nat.div_le_self _ _)))
 have HT2 := qH (fun (W : World) (h : Below w7.heap.size w7 W) => frac.times_any (X / y.gcd X) (Y / x.gcd Y) K K (by have := HK.out; omega) (.slice sb tb ub) (.slice sd td ud) W (Mw7_b.out.below h) (Mw7_d.out.below h) (HF.out.2.1.le (Nat.div_le_self _ _)) (HF.out.2.2.2.le (Nat.div_le_self _ _)))
 have HS := qH (fun (W : World) (m : Value) (h : MagAt W m (x / x.gcd Y * (y / y.gcd X))) => frac.signed_any (x / x.gcd Y * (y / y.gcd X)) (b0 != b1) m W h)
 have hst : Below (w.heap.size + 1 + 1) W1 w7 := Hw7.out.2
 have hstD : Below (w.heap.size + 1 + 1) W1 w7.drew := hst.drew
 have hs0 : w.heap.size + 1 + 1 < w7.heap.size := Nat.lt_of_lt_of_le Hl2.out hst.size
 have Hs0 := qH hs0
 clear hs0
 go_wp2_with fail
 go_region_held3 (fun W => Below (w.heap.size + 1 + 1) W1 W) (first | with_reducible exact hst | with_reducible exact hstD | with_reducible exact HB10 | with_reducible exact HB9 | with_reducible exact HB8 | ((iterate 3 refine Below.setCell ?_ (by exact Nat.le_refl _) _); exact HB10)) (first | (go_at_call_of 150 (Value.slice sa ta ua); refine (HT1.out _ (qB.drew)).mono ?_; rintro e w8 ⟨p8, rfl, hb8, hp8⟩; have HB8 : Below (w.heap.size + 1 + 1) W1 w8 := hstD.trans (hb8.mono (Nat.le_of_lt Hs0.out)); have HP8 := qH (qA hp8 (qA ((hb8.block _ Hs0.out).trans Rw7.out) (((Below.refl w7.heap.size w7).drew).trans hb8))); clear hb8 hp8) | (go_at_call 149; refine (HS.out _ _ HP8.out.1).mono ?_; rintro e w9 ⟨p9, rfl, hb9, hp9⟩; have HB9 : Below (w.heap.size + 1 + 1) W1 w9 := HB8.trans (hb9.mono (Nat.le_trans (Nat.le_of_lt Hl2.out) HB8.size)); obtain ⟨a9, n9, c9, b9, rfl⟩ := frac.int_shape hp9; have HP9 := qH (qA hp9 (qA ((hb9.block _ (qG HP8.out.2.1).1).trans HP8.out.2.1) (HP8.out.2.2.trans (hb9.mono HP8.out.2.2.size)))); clear hb9 hp9) | (go_at_call_of 150 (Value.slice sb tb ub); refine (HT2.out _ HP9.out.2.2).mono ?_; rintro e w10 ⟨p10, rfl, hb10, hp10⟩; have HB10 : Below (w.heap.size + 1 + 1) W1 w10 := HB9.trans (hb10.mono (Nat.le_trans (Nat.le_of_lt Hl2.out) HB9.size)); obtain ⟨a8, n8, c8, b8, d8, e8, f8, hm8, ho8, hv8⟩ := HRES.out w10 _ _ (HP9.out.1.below hb10) hp10; have hz10 := (hb10.block _ (qG HP9.out.2.1).1).trans HP9.out.2.1; subst ho8; have e0 := cell_of_row w10 _ 0 _ _ _ hz10; have e1 := cell_of_row w10 _ 1 _ _ _ hz10; have e2 := cell_of_row w10 _ 2 _ _ _ hz10; have f0 := frozen_of_row w10 _ 0 _ _ hz10; have f1 := frozen_of_row w10 _ 1 _ _ hz10; have f2 := frozen_of_row w10 _ 2 _ _ hz10; have hm8' : a8 = a9 ∧ n8 = n9 ∧ c8 = c9 ∧ b8 = b9 := (by simp only [Value.agg.injEq, Array.mk.injEq, List.cons.injEq, Value.slice.injEq, Value.bool.injEq] at hm8; exact ⟨hm8.1.1.symm, hm8.1.2.1.symm, hm8.1.2.2.symm, hm8.2.1.symm⟩); obtain ⟨rfl, rfl, rfl, rfl⟩ := hm8'; have HP10 := qH (qA hv8 hz10); clear hb10 hp10 hm8 hv8 hz10))
 go_wp2_with fail
 exact bodyPost_ret (v := .agg #[.slice a8 n8 c8, .bool b8, .slice d8 e8 f8]) (results_row rfl _ _ (w.heap.size + 1 + 1) 138 _ _ rfl (row_set3 HP10.out.2 a8 n8 c8 b8 d8 e8 f8) Tryz.underlying138 rfl 3 (by kernel_rfl) rfl) rfl ⟨_, rfl, HR.out.1.trans ((((HB10.setCell (by exact Nat.le_refl _) _).setCell (by exact Nat.le_refl _) _).setCell (by exact Nat.le_refl _) _).mono (by omega)), rat_set3 HP10.out.1 HP10.out.2 _ _ _ _ _ _ _⟩
end Go.Proofs.YtfminfgabiipjaaGreatDoor
end
