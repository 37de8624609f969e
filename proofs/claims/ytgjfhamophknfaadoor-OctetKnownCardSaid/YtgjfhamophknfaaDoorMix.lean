/- A region that draws its order, walked in ONE order that a program has reckoned: what is free and yields the same in every world is taken first; whatever else comes up alone. -/
import Derived.Deep.RegionHeld3
import Derived.KernelRfl
namespace Go.Proofs.YtgjfhamophknfaaDoor
open Go
section
variable {P : Program} {ops : Array Oper} {Q : Exit → Act → World → Prop} {md : Region.Mode} {S : World → Prop}

/-- May number i come up? -/
def readyB (md : Region.Mode) (ops : Array Oper) (listed : Array Bool) (i : Nat) : Bool :=
  !listed.getD i true && ((ops[i]?).map (·.after.all fun e => !Region.binds md e || listed.getD e.on false)).getD false
theorem readyB_spec {listed : Array Bool} {i : Nat} (h : readyB md ops listed i = true) : (Region.ready md ops listed).contains i = true := by
  have h2 := h
  unfold readyB at h2
  rw [Bool.and_eq_true] at h2
  have hi : i < ops.size := by
    cases e : ops[i]? with
    | none => rw [e] at h2; exact absurd h2.2 (by simp)
    | some o => exact (Array.getElem?_eq_some_iff.1 e).1
  rw [List.contains_iff_mem]
  exact List.mem_filter.2 ⟨List.mem_range.2 hi, h⟩
/-- The order: a number, and whether it is taken first. Checked once, by the kernel. -/
def mixB (md : Region.Mode) (ops : Array Oper) : List (Nat × Bool) → Array Bool → Bool
  | [], listed => (Region.ready md ops listed).isEmpty
  | (i, true) :: l, listed => readyB md ops listed i && Region.free md ops listed i && mixB md ops l (listed.setIfInBounds i true)
  | (i, false) :: l, listed => decide (Region.ready md ops listed = [i]) && mixB md ops l (listed.setIfInBounds i true)
def wpMix (P : Program) (ops : Array Oper) (Q : Exit → Act → World → Prop) (S : World → Prop) : List (Nat × Bool) → Act → World → Prop
  | [], a, w => Q .normal a w
  | (i, true) :: l, a, w => ∃ o v, ops[i]? = some o ∧ YieldsIf P ops S o v a ∧ wpMix P ops Q S l (a.put o.dst v) w
  | (i, false) :: l, a, w => wpOp P ops Q i (fun a' w' => S w' ∧ wpMix P ops Q S l a' w') a w
theorem wpAnyH_mix (hs : Region.noSelect ops = true) (hQ : ∀ c a d v w, Q (.panic c) (Act.put a d v) w → Q (.panic c) a w) :
    ∀ (l : List (Nat × Bool)) (listed : Array Bool) (a : Act) (w : World), mixB md ops l listed = true → S w → wpMix P ops Q S l a w → wpAnyH P md ops Q S l.length listed a w
  | [], listed, a, w, hB, _, h => ⟨by simpa [mixB] using hB, h⟩
  | (i, true) :: l, listed, a, w, hB, hS, h => by
    simp only [mixB, Bool.and_eq_true] at hB
    obtain ⟨⟨hr, hf⟩, hB'⟩ := hB
    obtain ⟨o, v, hi, hy, hK⟩ := h
    exact wpAnyH_take hi hs hf (readyB_spec hr) (fun c a w h => hQ c a _ _ w h) hy hS (wpAnyH_mix hs hQ l _ _ _ hB' hS hK)
  | (i, false) :: l, listed, a, w, hB, hS, h => by
    simp only [mixB, Bool.and_eq_true, decide_eq_true_eq] at hB
    obtain ⟨hr, hB'⟩ := hB
    refine wpAnyH_all hr (by simp) fun j hj => ?_
    have hji : j = i := by simpa using hj
    subst hji
    exact wpOp_mono (fun a' w' hh => ⟨hh.1, wpAnyH_mix hs hQ l _ _ _ hB' hh.1 hh.2⟩) h
/-- The beginning. -/
theorem wp_region_mix {id : Nat} {a : Act} {w : World} (l : List (Nat × Bool)) (S : World → Prop) (hm : P.follows .mixedOrders = true) (hs : Region.noSelect ops = true)
    (hQ : ∀ c a d v w, Q (.panic c) (Act.put a d v) w → Q (.panic c) a w) (hl : l.length = ops.size) (hB : mixB .any ops l (Array.replicate ops.size false) = true) (hS : S w.drew)
    (h : wpMix P ops Q S l a w.drew) : (Code.region id ops true).wp P Q a w := by
  refine wp_region_held (S := S) hm ?_
  have := wpAnyH_mix (md := .any) hs hQ l _ a _ hB hS h
  rwa [hl] at this
theorem wpMix_take {i : Nat} {l : List (Nat × Bool)} {a : Act} {w : World} (o : Oper) (v : Value) (hi : ops[i]? = some o) (hy : YieldsIf P ops S o v a) (h : wpMix P ops Q S l (a.put o.dst v) w) : wpMix P ops Q S ((i, true) :: l) a w :=
  ⟨o, v, hi, hy, h⟩
/-- What comes up alone: by the walk's own words; behind it S anew. -/
theorem wpMix_step {i : Nat} {l : List (Nat × Bool)} {a : Act} {w : World} (o : Oper) (hi : ops[i]? = some o)
    (h : ∀ K : Act → World → Prop, (∀ a w, S w → wpMix P ops Q S l a w → K a w) → if Region.wanted o (yielded ops a.tmps) = true then o.wp P a w K Q else K (a.put o.dst undef) w) : wpMix P ops Q S ((i, false) :: l) a w := by
  have := h (fun a' w' => S w' ∧ wpMix P ops Q S l a' w') (fun a w h1 h2 => ⟨h1, h2⟩)
  show wpOp P ops Q i _ a w
  unfold wpOp
  simp only [hi]
  split
  · rename_i hw
    rw [if_pos hw] at this
    exact .inl this
  · rename_i hw
    rw [if_neg hw] at this
    exact this
theorem wpMix_done {a : Act} {w : World} (h : Q .normal a w) : wpMix P ops Q S [] a w := h
end
end Go.Proofs.YtgjfhamophknfaaDoor
