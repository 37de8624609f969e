/- What a walk carries from call to call: all that was there at the start is as it was, and the blocks made since that it still wants read as listed. No program in sight. -/
import Derived.Test.YtgjfhamophknfaaDoorKit
namespace Go.Proofs.YtgjfhamophknfaaDoor
open Go.RowKit

/-- What was in w is there still, and each listed block reads as listed. -/
def Iv (w W : World) (L : List (Nat × Array Value × TypeId)) : Prop := Below w.heap.size w W ∧ ∀ x ∈ L, W.heap[x.1]? = some (.cells x.2.1 x.2.2 (0, 0))
theorem Iv.start (w : World) : Iv w w [] := ⟨Below.refl _ _, fun x hx => by cases hx⟩
theorem Iv.below {w W : World} {L : List (Nat × Array Value × TypeId)} (h : Iv w W L) : Below w.heap.size w W := h.1
theorem Iv.get {w W : World} {L : List (Nat × Array Value × TypeId)} (h : Iv w W L) (i : Nat) {b : Nat} {cs : Array Value} {t : TypeId} (hx : L[i]? = some (b, cs, t)) : W.heap[b]? = some (.cells cs t (0, 0)) :=
  h.2 _ (List.mem_of_getElem? hx)
theorem Iv.lt {w W : World} {L : List (Nat × Array Value × TypeId)} (h : Iv w W L) (i : Nat) {b : Nat} {cs : Array Value} {t : TypeId} (hx : L[i]? = some (b, cs, t)) : b < W.heap.size :=
  (Array.getElem?_eq_some_iff.1 (h.get i hx)).1
theorem Iv.call {w W W' : World} {L : List (Nat × Array Value × TypeId)} (h : Iv w W L) (hb : Below W.heap.size W W') : Iv w W' L :=
  ⟨h.1.trans (hb.mono h.1.size), fun x hx => (hb.block _ (Array.getElem?_eq_some_iff.1 (h.2 x hx)).1).trans (h.2 x hx)⟩
theorem Iv.forget {w W : World} {L : List (Nat × Array Value × TypeId)} (h : Iv w W L) (o : Obj) : Iv w (W.alloc o) L :=
  h.call ((Below.refl _ _).alloc (Nat.le_refl _) _)
theorem Iv.new {w W : World} {L : List (Nat × Array Value × TypeId)} (h : Iv w W L) (cs : Array Value) (t : TypeId) : Iv w (W.alloc (.cells cs t)) ((W.heap.size, cs, t) :: L) :=
  ⟨(h.forget _).1, fun x hx => by
    rcases List.mem_cons.1 hx with rfl | hx
    · exact heap_alloc_at _ _ _ rfl
    · exact (h.forget _).2 x hx⟩
theorem Iv.drew {w W : World} {L : List (Nat × Array Value × TypeId)} (h : Iv w W L) : Iv w W.drew L := ⟨h.1.drew, h.2⟩
theorem Iv.drewN {w W : World} {L : List (Nat × Array Value × TypeId)} (h : Iv w W L) (n : Nat) : Iv w (W.drewN n) L := ⟨below_drewN h.1 n, h.2⟩
theorem Iv.sub {w W : World} {L M : List (Nat × Array Value × TypeId)} (h : Iv w W L) (hs : ∀ x ∈ M, x ∈ L) : Iv w W M := ⟨h.1, fun x hx => h.2 x (hs x hx)⟩
theorem Iv.tail {w W : World} {L : List (Nat × Array Value × TypeId)} {x : Nat × Array Value × TypeId} (h : Iv w W (x :: L)) : Iv w W L := h.sub fun _ hy => List.mem_cons_of_mem _ hy
theorem Iv.cell {w W : World} {L : List (Nat × Array Value × TypeId)} (h : Iv w W L) (i : Nat) {b : Nat} {cs : Array Value} {t : TypeId} (hx : L[i]? = some (b, cs, t)) (j : Nat) {v : Value} (hv : cs[j]? = some v) : W.cell? ⟨b, j, none⟩ = some v :=
  (cell_of_row _ _ _ _ _ _ (h.get i hx)).trans hv
theorem Iv.free {w W : World} {L : List (Nat × Array Value × TypeId)} (h : Iv w W L) (i : Nat) {b : Nat} {cs : Array Value} {t : TypeId} (hx : L[i]? = some (b, cs, t)) (j : Nat) : W.frozen? ⟨b, j, none⟩ = false :=
  frozen_of_row _ _ _ _ _ (h.get i hx)
/-- One cell of the first block is written. -/
theorem Iv.set {w W : World} {L : List (Nat × Array Value × TypeId)} {b : Nat} {cs : Array Value} {t : TypeId} (h : Iv w W ((b, cs, t) :: L)) (hb : w.heap.size ≤ b) (hn : ∀ x ∈ L, x.1 ≠ b) (j : Nat) (v : Value) : Iv w (W.setCell ⟨b, j, none⟩ v) ((b, cs.setIfInBounds j v, t) :: L) :=
  ⟨h.1.setCell (by show w.heap.size ≤ b; exact hb) _, fun x hx => by
    rcases List.mem_cons.1 hx with rfl | hx
    · exact heap_setCell_same _ _ j _ t v (h.get 0 rfl)
    · exact (Below.heap_setCell _ _ _ _ (hn x hx)).trans (h.2 x (List.mem_cons_of_mem _ hx))⟩
/-- The first block is written whole. -/
theorem Iv.row {w W : World} {L : List (Nat × Array Value × TypeId)} {b : Nat} {cs : Array Value} {t : TypeId} (h : Iv w W ((b, cs, t) :: L)) (hb : w.heap.size ≤ b) (hn : ∀ x ∈ L, x.1 ≠ b) (cs' : Array Value) : Iv w (W.setRow b cs') ((b, cs', t) :: L) :=
  ⟨below_setRow h.1 hb _, fun x hx => by
    rcases List.mem_cons.1 hx with rfl | hx
    · exact setRow_heap _ _ _ _ _ _ (h.get 0 rfl)
    · exact (setRow_other _ _ _ _ (hn x hx)).trans (h.2 x (List.mem_cons_of_mem _ hx))⟩
/-- One stretch behind another. -/
theorem Iv.join {w V W : World} {L M : List (Nat × Array Value × TypeId)} (h : Iv w V L) (k : Iv V W M) : Iv w W (M ++ L) :=
  ⟨(h.call k.1).1, fun x hx => by
    rcases List.mem_append.1 hx with hx | hx
    · exact k.2 x hx
    · exact (h.call k.1).2 x hx⟩
end Go.Proofs.YtgjfhamophknfaaDoor
