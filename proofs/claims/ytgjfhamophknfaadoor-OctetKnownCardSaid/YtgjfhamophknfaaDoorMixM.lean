/- The order of XMix checked over the region's tables and a number's bits: what the kernel can reckon in little memory. -/
import Derived.Test.YtgjfhamophknfaaDoorMix
import Derived.NoCompilerSame
namespace Go.Proofs.YtgjfhamophknfaaDoor
open Go

/-- All of them have come up. -/
def upM (M : Nat) (l : List Nat) : Bool := l.all fun j => M.testBit j
def mixM (T : RegionTabs) (n : Nat) : List (Nat × Bool) → Nat → Bool
  | [], M => (List.range n).all fun j => M.testBit j
  | (i, true) :: l, M => decide (i < n) && !M.testBit i && upM M (T.after.getD i []) && ((List.range n).all fun j => j == i || M.testBit j || (T.after.getD j []).contains i || T.apart i j) && mixM T n l (M ||| 2 ^ i)
  | (i, false) :: l, M => decide (i < n) && !M.testBit i && upM M (T.after.getD i []) && ((List.range n).all fun j => j == i || M.testBit j || !upM M (T.after.getD j [])) && mixM T n l (M ||| 2 ^ i)
section
variable {md : Region.Mode} {ops : Array Oper}
/-- The bits are those that have come up. -/
def Bits (n : Nat) (listed : Array Bool) (M : Nat) : Prop := listed.size = n ∧ ∀ j, listed.getD j false = M.testBit j
theorem Bits.at {n : Nat} {listed : Array Bool} {M : Nat} (h : Bits n listed M) {j : Nat} (hj : j < n) : listed.getD j true = M.testBit j := by
  rw [← h.2 j]
  have : j < listed.size := by rw [h.1]; exact hj
  simp [this]
theorem Bits.set {n : Nat} {listed : Array Bool} {M : Nat} (h : Bits n listed M) {i : Nat} (hi : i < n) : Bits n (listed.setIfInBounds i true) (M ||| 2 ^ i) := by
  refine ⟨by simp [h.1], fun j => ?_⟩
  rw [Nat.testBit_or, Nat.testBit_two_pow, ← h.2 j]
  by_cases hij : i = j
  · subst hij
    have : i < listed.size := by rw [h.1]; exact hi
    simp [this]
  · rw [getD_set_ne false hij]
    simp [hij]
theorem Bits.up {n : Nat} {listed : Array Bool} {M : Nat} (h : Bits n listed M) (l : List Nat) : (l.all fun on => listed.getD on false) = upM M l := by
  unfold upM
  congr 1
  funext j
  exact h.2 j
theorem mem_tabs {n : Nat} {listed : Array Bool} {M : Nat} (hn : ops.size = n) (h : Bits n listed M) {j : Nat} :
    j ∈ Region.ready md ops listed ↔ j < n ∧ M.testBit j = false ∧ upM M ((RegionTabs.of md ops).after.getD j []) = true := by
  have hsz : (RegionTabs.of md ops).after.size = n := by simp [RegionTabs.of, Region.tabAfter, hn]
  rw [← RegionTabs.ready_eq]
  unfold RegionTabs.ready
  rw [List.mem_filter, List.mem_range, hsz]
  constructor
  · rintro ⟨hj, h2⟩
    rw [Bool.and_eq_true, h.at hj] at h2
    have hjs : j < (RegionTabs.of md ops).after.size := by rw [hsz]; exact hj
    refine ⟨hj, by simpa using h2.1, ?_⟩
    have h3 := h2.2
    rw [Array.getElem?_eq_getElem hjs, Option.map_some, Option.getD_some, h.up] at h3
    simpa [hjs] using h3
  · rintro ⟨hj, h2, h3⟩
    have hjs : j < (RegionTabs.of md ops).after.size := by rw [hsz]; exact hj
    refine ⟨hj, ?_⟩
    rw [Bool.and_eq_true, h.at hj, h2]
    refine ⟨rfl, ?_⟩
    rw [Array.getElem?_eq_getElem hjs, Option.map_some, Option.getD_some, h.up]
    simpa [hjs] using h3
theorem range_one (n i : Nat) (p : Nat → Bool) (h : ∀ j, j < n → (p j = true ↔ j = i)) (hi : i < n) : (List.range n).filter p = [i] := by
  induction n generalizing i with
  | zero => omega
  | succ n ih =>
    rw [List.range_succ, List.filter_append]
    by_cases hin : i = n
    · subst hin
      have h1 : (List.range i).filter p = [] := by
        rw [List.filter_eq_nil_iff]
        intro j hj hp
        have hj' := List.mem_range.1 hj
        have := (h j (by omega)).1 hp
        omega
      rw [h1]
      simp [(h i (by omega)).2 rfl]
    · have hlt : i < n := by omega
      rw [ih i (fun j hj => h j (by omega)) hlt]
      have : p n = false := by
        cases e : p n with
        | false => rfl
        | true => exact absurd ((h n (by omega)).1 e) (by omega)
      simp [this]
theorem mixB_of_mixM {n : Nat} (hn : ops.size = n) : ∀ (l : List (Nat × Bool)) (listed : Array Bool) (M : Nat), Bits n listed M → mixM (RegionTabs.of md ops) n l M = true → mixB md ops l listed = true
  | [], listed, M, hb, h => by
    simp only [mixM, List.all_eq_true, List.mem_range] at h
    simp only [mixB, List.isEmpty_iff]
    rw [List.eq_nil_iff_forall_not_mem]
    intro j hj
    obtain ⟨hj1, hj2, _⟩ := (mem_tabs hn hb).1 hj
    rw [h j hj1] at hj2
    cases hj2
  | (i, true) :: l, listed, M, hb, h => by
    simp only [mixM, Bool.and_eq_true, decide_eq_true_eq] at h
    obtain ⟨⟨⟨⟨hi, hl⟩, hu⟩, hf⟩, hr⟩ := h
    simp only [mixB, Bool.and_eq_true]
    refine ⟨⟨?_, ?_⟩, mixB_of_mixM hn l _ _ (hb.set hi) hr⟩
    · have : i ∈ Region.ready md ops listed := (mem_tabs hn hb).2 ⟨hi, by simpa using hl, hu⟩
      exact (List.mem_filter.1 this).2
    · rw [← RegionTabs.free_eq]
      unfold RegionTabs.free
      have hsz : (RegionTabs.of md ops).after.size = n := by simp [RegionTabs.of, Region.tabAfter, hn]
      rw [hsz, Bool.and_eq_true, decide_eq_true_eq]
      refine ⟨hi, ?_⟩
      rw [List.all_eq_true] at hf ⊢
      intro j hj
      have := hf j hj
      rwa [← hb.at (List.mem_range.1 hj)] at this
  | (i, false) :: l, listed, M, hb, h => by
    simp only [mixM, Bool.and_eq_true, decide_eq_true_eq] at h
    obtain ⟨⟨⟨⟨hi, hl⟩, hu⟩, hf⟩, hr⟩ := h
    simp only [mixB, Bool.and_eq_true, decide_eq_true_eq]
    refine ⟨?_, mixB_of_mixM hn l _ _ (hb.set hi) hr⟩
    have hmem : ∀ j, j < ops.size → ((!listed.getD j true && ((ops[j]?).map (·.after.all fun e => !Region.binds md e || listed.getD e.on false)).getD false) = true ↔ j = i) := by
      intro j hj
      have hjn : j < n := by omega
      have e : ((!listed.getD j true && ((ops[j]?).map (·.after.all fun e => !Region.binds md e || listed.getD e.on false)).getD false) = true) ↔ j ∈ Region.ready md ops listed :=
        ⟨fun h => List.mem_filter.2 ⟨List.mem_range.2 hj, h⟩, fun h => (List.mem_filter.1 h).2⟩
      rw [e, mem_tabs hn hb]
      constructor
      · rintro ⟨_, h2, h3⟩
        rw [List.all_eq_true] at hf
        have := hf j (List.mem_range.2 hjn)
        rw [h2, h3] at this
        simpa using this
      · rintro rfl
        exact ⟨hi, by simpa using hl, hu⟩
    exact range_one ops.size i _ hmem (by omega)
theorem Bits.start (n : Nat) : Bits n (Array.replicate n false) 0 := by
  refine ⟨by simp, fun j => ?_⟩
  rw [Nat.zero_testBit]
  by_cases h : j < n <;> simp [h]
theorem mixB_start {n : Nat} {T : RegionTabs} {l : List (Nat × Bool)} (hn : ops.size = n) (hT : RegionTabs.of md ops = T) (h : mixM T n l 0 = true) : mixB md ops l (Array.replicate n false) = true :=
  mixB_of_mixM hn l _ _ (Bits.start n) (by rw [hT]; exact h)
end
end Go.Proofs.YtgjfhamophknfaaDoor
