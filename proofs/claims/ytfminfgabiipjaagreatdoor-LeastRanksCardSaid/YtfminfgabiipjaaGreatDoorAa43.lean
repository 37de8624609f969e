/- Aa, part 43: Hand -/
import Derived.Deep.RegionHeld3
import Derived.KernelRfl
import Derived.Test.YtfminfgabiipjaaGreatDoorAa0
set_option maxRecDepth 100000
set_option maxHeartbeats 16000000
namespace Go.Proofs.YtfminfgabiipjaaGreatDoor
open Go
section
variable {P : Program} {ops : Array Oper} {Q : Exit → Act → World → Prop} {md : Region.Mode} {S : World → Prop}
def nthOp : List Oper → Nat → Option Oper
 | [], _ => none
 | o :: _, 0 => some o
 | _ :: l, n + 1 => nthOp l n
theorem qhN : ∀ {l : List Oper} {i : Nat} {o : Oper}, nthOp l i = some o → l.toArray[i]? = some o
 | [], _, _, h => by cases h
 | _ :: _, 0, _, h => by rw [qax]; exact h
 | _ :: l, n + 1, _, h => by
  have := qhN (l := l) h
  rw [qax] at this ⊢
  exact this
theorem qgM {ops : Array Oper} {i : Nat} {o : Oper} (h : nthOp ops.toList i = some o) : ops[i]? = some o := qhN (l := ops.toList) h
theorem qlL {T : World → Prop} (hT : ∀ W, T W → S W) : ∀ (fuel : Nat) (listed : Array Bool) (a : Act) (w : World), wpAnyH P md ops Q T fuel listed a w → wpAnyH P md ops Q S fuel listed a w
 | 0, _, _, _, h => h
 | fuel + 1, _, _, _, h => ⟨h.1, fun i hi => wpOp_mono (fun _ _ hh => ⟨hT _ hh.1, qlL hT fuel _ _ _ hh.2⟩) (h.2 i hi)⟩
theorem qb3 (i : Nat) {o : Oper} {v : Value} {fuel : Nat} {listed : Array Bool} {a : Act} {w : World} (hi' : nthOp ops.toList i = some o)
  (hB : (Region.noSelect ops && (Region.free md ops listed i && (Region.ready md ops listed).contains i)) = true) (hQ : ∀ c a w, Q (.panic c) (a.put o.dst v) w → Q (.panic c) a w) (hS : S w)
  (hw : Region.wanted o (yielded ops a.tmps) = true) (hy : ∀ w, S w → (execOp a.eval o).run P w = .ok (.value v) w)
  (h : wpAnyH P md ops Q S fuel (listed.setIfInBounds i true) (a.put o.dst v) w) : wpAnyH P md ops Q S (fuel + 1) listed a w := by
 have hi := qgM hi'
 rw [qaX, qaX] at hB
 exact wpAnyH_take hi hB.1 hB.2.1 hB.2.2 hQ (qaA ⟨hw, hy⟩) hS h
def Way (P : Program) (md : Region.Mode) (ops : Array Oper) (Q : Exit → Act → World → Prop) (S : World → Prop) (fuel : Nat) (listed : Array Bool) (K : Act → World → Prop) : Prop :=
 Shut (∀ (T : World → Prop) (a : Act) (w : World), (∀ W, T W → S W) → T w → wpAnyH P md ops Q T fuel listed a w → K a w)
theorem qju {i : Nat} {o : Oper} {fuel : Nat} {listed : Array Bool} {a : Act} {w : World} (hi : ops[i]? = some o)
  (h : ∀ K : Act → World → Prop, Way P md ops Q S fuel (listed.setIfInBounds i true) K → if Region.wanted o (yielded ops a.tmps) = true then Oper.wp P o a w K Q else K (a.put o.dst undef) w) :
  wpOp P ops Q i (fun a' w' => S w' ∧ wpAnyH P md ops Q S fuel (listed.setIfInBounds i true) a' w') a w :=
 wpOp_step hi fun K' hK => h K' fun _T a w hT hw hh => hK a w ⟨hT w hw, qlL hT _ _ _ _ hh⟩
theorem qcq (i : Nat) {o : Oper} {fuel : Nat} {listed : Array Bool} {a : Act} {w : World} (hi' : nthOp ops.toList i = some o) (hr : decide (Region.ready md ops listed = [i]) = true)
  (h : ∀ K : Act → World → Prop, Way P md ops Q S fuel (listed.setIfInBounds i true) K → if Region.wanted o (yielded ops a.tmps) = true then Oper.wp P o a w K Q else K (a.put o.dst undef) w) :
  wpAnyH P md ops Q S (fuel + 1) listed a w := by
 refine wpAnyH_all (of_decide_eq_true hr) (by simp) fun j hj => ?_
 rw [qaq] at hj
 subst hj
 exact qju (qgM hi') h
theorem qiJ (i j : Nat) {o p : Oper} {fuel : Nat} {listed : Array Bool} {a : Act} {w : World} (hi : nthOp ops.toList i = some o) (hj : nthOp ops.toList j = some p) (hr : decide (Region.ready md ops listed = [i, j]) = true)
  (h : ∀ K : Act → World → Prop, Way P md ops Q S fuel (listed.setIfInBounds i true) K → if Region.wanted o (yielded ops a.tmps) = true then Oper.wp P o a w K Q else K (a.put o.dst undef) w)
  (k : ∀ K : Act → World → Prop, Way P md ops Q S fuel (listed.setIfInBounds j true) K → if Region.wanted p (yielded ops a.tmps) = true then Oper.wp P p a w K Q else K (a.put p.dst undef) w) :
  wpAnyH P md ops Q S (fuel + 1) listed a w := by
 refine wpAnyH_all (of_decide_eq_true hr) (by simp) fun x hx => ?_
 rcases qaL.1 hx with rfl | hx
 ·exact qju (qgM hi) h
 ·rw [qaq] at hx
  subst hx
  exact qju (qgM hj) k
theorem Way.on {fuel : Nat} {listed : Array Bool} {K : Act → World → Prop} (h : Way P md ops Q S fuel listed K) (T : World → Prop) (a : Act) (w : World) (hT : ∀ W, T W → S W) (hw : T w) (k : T w → wpAnyH P md ops Q T fuel listed a w) : K a w :=
 h.out T a w hT hw (k hw)
end
end Go.Proofs.YtfminfgabiipjaaGreatDoor
