/- Rk, part 28: Bar Sol Bst -/
import Derived.Test.YtfminfgabiipjaaGreatDoorRk0
import Derived.Test.YtfminfgabiipjaaGreatDoorRk2
section
namespace Go.Proofs.YtfminfgabiipjaaGreatDoor
def sel {α : Type} (a : α) (P : Nat → α) : Nat → α
 | 0 => a
 | s + 1 => P s
def BR (k : Nat) (P : Nat → Nat → Int) (σ : Nat → Nat) (a : Nat → Int) (j : Nat) : Int := det (k + 1) fun r x => sel a P r (sel j σ x)
def DR (k : Nat) (P : Nat → Nat → Int) (σ : Nat → Nat) : Int := det k fun r x => P r (σ x)
theorem BR_zero (P : Nat → Nat → Int) (σ : Nat → Nat) (a : Nat → Int) (j : Nat) : BR 0 P σ a j = a j := by
 show sumN 1 _ = _
 show 0 + sg 0 * a j * 1 = a j
 rw [sg0]; omega
theorem bar_step {k : Nat} {P : Nat → Nat → Int} {σ : Nat → Nat} (hd : DR k P σ ≠ 0) (a p : Nat → Int) (c j : Nat) :
  BR k P σ a j * BR k P σ p c - BR k P σ a c * BR k P σ p j = DR k P σ * BR (k + 1) (sel p P) (sel c σ) a j := by
 have h := sylvester k (fun r x => sel a (sel p P) r (sel j (sel c σ) x)) hd
 have e00 : bord k (fun r x => sel a (sel p P) r (sel j (sel c σ) x)) 0 0 = BR k P σ a j := by
  unfold bord BR
  congr 1; funext r x
  cases r <;> cases x <;> rfl
 have e11 : bord k (fun r x => sel a (sel p P) r (sel j (sel c σ) x)) 1 1 = BR k P σ p c := by
  unfold bord BR
  congr 1; funext r x
  cases r <;> cases x <;> rfl
 have e01 : bord k (fun r x => sel a (sel p P) r (sel j (sel c σ) x)) 0 1 = BR k P σ a c := by
  unfold bord BR
  congr 1; funext r x
  cases r <;> cases x <;> rfl
 have e10 : bord k (fun r x => sel a (sel p P) r (sel j (sel c σ) x)) 1 0 = BR k P σ p j := by
  unfold bord BR
  congr 1; funext r x
  cases r <;> cases x <;> rfl
 rw [e00, e11, e01, e10] at h
 exact h
theorem DR_succ (k : Nat) (P : Nat → Nat → Int) (σ : Nat → Nat) (p : Nat → Int) (c : Nat) : DR (k + 1) (sel p P) (sel c σ) = BR k P σ p c := rfl
theorem BR_unit (k : Nat) (P : Nat → Nat → Int) (σ : Nat → Nat) (a : Nat → Int) (j : Nat) (h : ∀ s, s < k → a (σ s) = 0) : BR k P σ a j = DR k P σ * a j := by
 show sumN (k + 1) (fun x => sg x * sel a P 0 (sel j σ x) * det k fun r c => sel a P (r + 1) (sel j σ (skip x c))) = _
 rw [sumN_head k _ fun i hi => by
  show sg (i + 1) * a (σ i) * _ = 0
  rw [h i hi, Int.mul_zero, Int.zero_mul]]
 have e : (fun r c => sel a P (r + 1) (sel j σ (skip 0 c))) = fun r x => P r (σ x) := by
  funext r c; rw [skip_zero]; rfl
 rw [e, sg0, Int.one_mul, Int.mul_comm]; rfl
abbrev castM (M : Nat → Nat → Int) : Nat → Nat → Rat := fun i j => (M i j : Rat)
def barStep (f : Nat → Bool) (M : Nat → Nat → Int) (p c : Nat) (D : Int) : Nat → Nat → Int := fun i => if f i = true ∧ i ≠ p then fun j => (M p c * M i j - M i c * M p j).tdiv D else M i
theorem span_step {f : Nat → Bool} {R n p c : Nat} {M : Nat → Nat → Int} {D : Int} (hp : p < R) (hD : D ≠ 0) (hc : M p c ≠ 0) (hx : ∀ i, i < R → f i = true → i ≠ p → ∀ j, j < n → D ∣ M p c * M i j - M i c * M p j) : SpanEq R R n (castM M) (castM (barStep f M p c D)) := by
 have hD' : (D : Rat) ≠ 0 := by exact_mod_cast hD
 have hc' : (M p c : Rat) ≠ 0 := by exact_mod_cast hc
 have hrow : ∀ i, i < R → f i = true → i ≠ p → ∀ j, j < n → (D : Rat) * ((barStep f M p c D i j : Int) : Rat) = M p c * M i j - M i c * M p j := by
  intro i hi hf hip j hj
  have e : barStep f M p c D i j = (M p c * M i j - M i c * M p j).tdiv D := by unfold barStep; rw [if_pos ⟨hf, hip⟩]
  have := Int.mul_tdiv_cancel' (hx i hi hf hip j hj)
  rw [e]
  exact_mod_cast this
 have hother : ∀ i, ¬ (f i = true ∧ i ≠ p) → barStep f M p c D i = M i := fun i h => by unfold barStep; rw [if_neg h]
 have hself : barStep f M p c D p = M p := hother p (fun h => h.2 rfl)
 refine ⟨fun i hi => ?_, fun i hi => ?_⟩
 ·by_cases h : f i = true ∧ i ≠ p
  ·refine Span.congr (Span.comb (Span.row (A := castM (barStep f M p c D)) hi) (Span.row (A := castM (barStep f M p c D)) hp) ((D : Rat) / M p c) ((M i c : Rat) / M p c)) (fun _ _ _ _ => rfl) fun j hj => ?_
   have := hrow i hi h.1 h.2 j hj
   show (D : Rat) / M p c * ((barStep f M p c D i j : Int) : Rat) + (M i c : Rat) / M p c * ((barStep f M p c D p j : Int) : Rat) = (M i j : Rat)
   rw [hself]
   grind
  ·have := Span.row (R := R) (n := n) (A := castM (barStep f M p c D)) (i := i) hi
   exact Span.congr this (fun _ _ _ _ => rfl) fun j _ => by show ((barStep f M p c D i j : Int) : Rat) = _; rw [hother i h]
 ·by_cases h : f i = true ∧ i ≠ p
  ·refine Span.congr (Span.comb (Span.row (A := castM M) hi) (Span.row (A := castM M) hp) ((M p c : Rat) / D) (-(M i c : Rat) / D)) (fun _ _ _ _ => rfl) fun j hj => ?_
   have := hrow i hi h.1 h.2 j hj
   show (M p c : Rat) / D * (M i j : Rat) + -(M i c : Rat) / D * (M p j : Rat) = ((barStep f M p c D i j : Int) : Rat)
   grind
  ·have := Span.row (R := R) (n := n) (A := castM M) (i := i) hi
   exact Span.congr this (fun _ _ _ _ => rfl) fun j _ => by show (M i j : Rat) = ((barStep f M p c D i j : Int) : Rat); rw [hother i h]
def swapRow {α : Type} (M : Nat → α) (k a : Nat) : Nat → α := fun j => if j = k then M a else if j = a then M k else M j
theorem span_swap {R n k a : Nat} {M : Nat → Nat → Int} (hk : k < R) (ha : a < R) : SpanEq R R n (castM M) (castM (swapRow M k a)) := by
 have row : ∀ i l, i < R → swapRow M k a i = M l → Span R n (castM (swapRow M k a)) (castM M l) := fun i l hi h =>
  Span.congr (Span.row (R := R) (n := n) (A := castM (swapRow M k a)) (i := i) hi) (fun _ _ _ _ => rfl) fun j _ => by show ((swapRow M k a i j : Int) : Rat) = _; rw [h]
 have row' : ∀ i l, l < R → swapRow M k a i = M l → Span R n (castM M) (castM (swapRow M k a) i) := fun i l hl h =>
  Span.congr (Span.row (R := R) (n := n) (A := castM M) (i := l) hl) (fun _ _ _ _ => rfl) fun j _ => by show (M l j : Rat) = ((swapRow M k a i j : Int) : Rat); rw [h]
 refine ⟨fun i hi => ?_, fun i hi => ?_⟩
 ·by_cases e : i = k
  ·subst e
   by_cases e2 : a = i
   ·subst e2; exact row a a ha (by unfold swapRow; rw [if_pos rfl])
   ·exact row a i ha (by unfold swapRow; rw [if_neg e2, if_pos rfl])
  ·by_cases e2 : i = a
   ·subst e2; exact row k i hk (by unfold swapRow; rw [if_pos rfl])
   ·exact row i i hi (by unfold swapRow; rw [if_neg e, if_neg e2])
 ·by_cases e : i = k
  ·exact row' i a ha (by unfold swapRow; rw [if_pos e])
  ·by_cases e2 : i = a
   ·exact row' i k hk (by unfold swapRow; rw [if_neg e, if_pos e2])
   ·exact row' i i hi (by unfold swapRow; rw [if_neg e, if_neg e2])
structure RankSt (R n k c : Nat) (D : Int) (M A : Nat → Nat → Int) : Prop where
 span : SpanEq R R n (castM M) (castM A)
 dets : ∃ (P : Nat → Nat → Int) (σ : Nat → Nat) (a : Nat → Nat → Int), DR k P σ = D ∧ ∀ i, k ≤ i → i < R → ∀ j, j < n → M i j = BR k P σ (a i) j
 zero : ∀ i, k ≤ i → i < R → ∀ j, j < c → M i j = 0
 step : ∃ τ : Nat → Nat, ∀ s, s < k → τ s < c ∧ M s (τ s) ≠ 0 ∧ ∀ i, s < i → i < R → M i (τ s) = 0
 nz : D ≠ 0
theorem RankSt.start (R n : Nat) (A : Nat → Nat → Int) : RankSt R n 0 0 1 A A :=
 ⟨SpanEq.refl _ _ _, ⟨fun _ _ => 0, fun _ => 0, A, rfl, fun i _ _ j _ => (BR_zero _ _ _ _).symm⟩, fun _ _ _ j hj => absurd hj (by omega), ⟨fun _ => 0, fun s hs => absurd hs (by omega)⟩, by decide⟩
theorem RankSt.none {R n k c : Nat} {D : Int} {M A : Nat → Nat → Int} (h : RankSt R n k c D M A) (h0 : ∀ i, k ≤ i → i < R → M i c = 0) : RankSt R n k (c + 1) D M A :=
 ⟨h.span, h.dets, fun i hi hR j hj => by
  by_cases e : j < c
  ·exact h.zero i hi hR j e
  ·obtain rfl : j = c := by omega
   exact h0 i hi hR, by
  obtain ⟨τ, hτ⟩ := h.step
  exact ⟨τ, fun s hs => ⟨by have := (hτ s hs).1; omega, (hτ s hs).2⟩⟩, h.nz⟩
theorem swap_lo {α : Type} {M : Nat → α} {k a i : Nat} (hi : i < k) (ha : k ≤ a) : swapRow M k a i = M i := by unfold swapRow; rw [if_neg (by omega), if_neg (by omega)]
theorem RankSt.swap {R n k c a : Nat} {D : Int} {M A : Nat → Nat → Int} (h : RankSt R n k c D M A) (hk : k ≤ a) (ha : a < R) : RankSt R n k c D (swapRow M k a) A := by
 have kR : k < R := by omega
 refine ⟨(span_swap kR ha).symm.trans h.span, ?_, ?_, ?_, h.nz⟩
 ·obtain ⟨P, σ, b, hD, hb⟩ := h.dets
  refine ⟨P, σ, swapRow b k a, hD, fun i hi hR j hj => ?_⟩
  unfold swapRow
  by_cases e : i = k
  ·rw [if_pos e, if_pos e]; exact hb a hk ha j hj
  ·by_cases e2 : i = a
   ·rw [if_neg e, if_neg e, if_pos e2, if_pos e2]; exact hb k qN kR j hj
   ·rw [if_neg e, if_neg e, if_neg e2, if_neg e2]; exact hb i hi hR j hj
 ·intro i hi hR j hj
  unfold swapRow
  by_cases e : i = k
  ·rw [if_pos e]; exact h.zero a hk ha j hj
  ·by_cases e2 : i = a
   ·rw [if_neg e, if_pos e2]; exact h.zero k qN kR j hj
   ·rw [if_neg e, if_neg e2]; exact h.zero i hi hR j hj
 ·obtain ⟨τ, hτ⟩ := h.step
  refine ⟨τ, fun s hs => ⟨(hτ s hs).1, by rw [swap_lo hs hk]; exact (hτ s hs).2.1, fun i hi hR => ?_⟩⟩
  unfold swapRow
  by_cases e : i = k
  ·rw [if_pos e]; exact (hτ s hs).2.2 a (by omega) ha
  ·by_cases e2 : i = a
   ·rw [if_neg e, if_pos e2]; exact (hτ s hs).2.2 k (by omega) kR
   ·rw [if_neg e, if_neg e2]; exact (hτ s hs).2.2 i hi hR
theorem RankSt.exact {R n k c : Nat} {D : Int} {M A : Nat → Nat → Int} (h : RankSt R n k c D M A) (hk : k < R) (hc : c < n) : ∃ (P : Nat → Nat → Int) (σ : Nat → Nat) (b : Nat → Nat → Int), DR (k + 1) P σ = M k c ∧ ∀ i, k < i → i < R → ∀ j, j < n → M k c * M i j - M i c * M k j = D * BR (k + 1) P σ (b i) j := by
 obtain ⟨P, σ, b, hD, hb⟩ := h.dets
 refine ⟨sel (b k) P, sel c σ, b, by rw [DR_succ]; exact (hb k qN hk c hc).symm, fun i hi hR j hj => ?_⟩
 have := bar_step (k := k) (P := P) (σ := σ) (by rw [hD]; exact h.nz) (b i) (b k) c j
 rw [hD, ← hb i (by omega) hR j hj, ← hb k qN hk c hc, ← hb i (by omega) hR c hc, ← hb k qN hk j hj] at this
 rw [← this, Int.mul_comm (M i j)]
theorem RankSt.next {R n k c : Nat} {D : Int} {M A : Nat → Nat → Int} (h : RankSt R n k c D M A) (hk : k < R) (hc : c < n) (h0 : M k c ≠ 0) : RankSt R n (k + 1) (c + 1) (M k c) (barStep (fun i => decide (k < i)) M k c D) A := by
 obtain ⟨P, σ, b, hD, hb⟩ := h.exact hk hc
 have hrow : ∀ i, k < i → ∀ j, barStep (fun i => decide (k < i)) M k c D i j = (M k c * M i j - M i c * M k j).tdiv D := fun i hi j => by
  unfold barStep; rw [if_pos ⟨decide_eq_true hi, by omega⟩]
 have hrow2 : ∀ i, k < i → i < R → ∀ j, j < n → barStep (fun i => decide (k < i)) M k c D i j = BR (k + 1) P σ (b i) j := fun i hi hR j hj => by
  rw [hrow i hi j, hb i hi hR j hj, Int.mul_tdiv_cancel_left _ h.nz]
 have hlow : ∀ i, i ≤ k → barStep (fun i => decide (k < i)) M k c D i = M i := fun i hi => by
  unfold barStep; rw [if_neg]
  intro h; have := of_decide_eq_true h.1; omega
 refine ⟨(span_step hk h.nz h0 fun i hi hf _ j hj => ⟨_, hb i (of_decide_eq_true hf) hi j hj⟩).symm.trans h.span, ⟨P, σ, b, hD, fun i hi hR j hj => hrow2 i (by omega) hR j hj⟩, fun i hi hR j hj => ?_, ?_, h0⟩
 ·rw [hrow i (by omega) j]
  by_cases e : j < c
  ·rw [h.zero i (by omega) hR j e, h.zero k qN hk j e, Int.mul_zero, Int.mul_zero]; exact Int.zero_tdiv _
  ·obtain rfl : j = c := by omega
   rw [Int.mul_comm, Int.sub_self]; exact Int.zero_tdiv _
 ·obtain ⟨τ, hτ⟩ := h.step
  refine ⟨fun s => if s = k then c else τ s, fun s hs => ?_⟩
  by_cases e : s = k
  ·subst e
   simp only [if_true]
   refine ⟨by omega, by rw [hlow s qN]; exact h0, fun i hi hR => ?_⟩
   rw [hrow i hi c, Int.mul_comm, Int.sub_self]; exact Int.zero_tdiv _
  ·simp only [if_neg e]
   have hsk : s < k := by omega
   refine ⟨by have := (hτ s hsk).1; omega, by rw [hlow s (by omega)]; exact (hτ s hsk).2.1, fun i hi hR => ?_⟩
   by_cases e2 : i ≤ k
   ·rw [hlow i e2]; exact (hτ s hsk).2.2 i hi hR
   ·rw [hrow i (by omega), (hτ s hsk).2.2 i hi hR, (hτ s hsk).2.2 k hsk hk, Int.mul_zero, Int.mul_zero]; exact Int.zero_tdiv _
theorem RankSt.done {R n k c : Nat} {D : Int} {M A : Nat → Nat → Int} (h : RankSt R n k c D M A) (hk : k ≤ R) (hc : c ≤ n) (he : c = n ∨ k = R) : RankIs R n (castM A) k := by
 obtain ⟨τ, hτ⟩ := h.step
 have hr : RankIs R n (castM M) k := RankIs.steps hk τ (fun s hs => ⟨by have := (hτ s hs).1; omega, by have := (hτ s hs).2.1; show ((M s (τ s) : Int) : Rat) ≠ 0; exact_mod_cast this, fun i hi hik => by
  have := (hτ s hs).2.2 i hi (by omega)
  show ((M i (τ s) : Int) : Rat) = 0
  rw [this]; rfl⟩) fun i hi hR j hj => by
   show ((M i j : Int) : Rat) = 0
   rcases he with e | e
   ·rw [h.zero i hi hR j (by omega)]; rfl
   ·omega
 obtain ⟨v, iv, sv⟩ := hr
 exact ⟨v, iv, h.span.symm.trans sv⟩
structure ElimSt (R n k : Nat) (D : Int) (M A : Nat → Nat → Int) : Prop where
 span : SpanEq R R n (castM M) (castM A)
 dets : ∃ (P : Nat → Nat → Int) (σ : Nat → Nat) (a : Nat → Nat → Int), DR k P σ = D ∧ (∀ s, s < k → σ s < k) ∧ (∀ i, k ≤ i → i < R → ∀ j, j < n → M i j = BR k P σ (a i) j) ∧
  ∀ i, i < k → ∀ j, j < n → M i j = D * (if j = i then 1 else 0) - BR k P σ (fun x => if x = i then 1 else 0) j
 diag : ∀ i, i < R → ∀ c, c < k → M i c = if i = c then D else 0
 nz : D ≠ 0
theorem ElimSt.start (R n : Nat) (A : Nat → Nat → Int) : ElimSt R n 0 1 A A :=
 ⟨SpanEq.refl _ _ _, ⟨fun _ _ => 0, fun _ => 0, A, rfl, fun s hs => absurd hs (by omega), fun i _ _ j _ => (BR_zero _ _ _ _).symm, fun i hi => absurd hi (by omega)⟩, fun _ _ j hj => absurd hj (by omega), by decide⟩
theorem ElimSt.swap {R n k a : Nat} {D : Int} {M A : Nat → Nat → Int} (h : ElimSt R n k D M A) (hk : k ≤ a) (ha : a < R) : ElimSt R n k D (swapRow M k a) A := by
 have kR : k < R := by omega
 refine ⟨(span_swap kR ha).symm.trans h.span, ?_, ?_, h.nz⟩
 ·obtain ⟨P, σ, b, hD, hσ, hb, hl⟩ := h.dets
  refine ⟨P, σ, swapRow b k a, hD, hσ, fun i hi hR j hj => ?_, fun i hi j hj => by rw [swap_lo hi hk]; exact hl i hi j hj⟩
  unfold swapRow
  by_cases e : i = k
  ·rw [if_pos e, if_pos e]; exact hb a hk ha j hj
  ·by_cases e2 : i = a
   ·rw [if_neg e, if_neg e, if_pos e2, if_pos e2]; exact hb k qN kR j hj
   ·rw [if_neg e, if_neg e, if_neg e2, if_neg e2]; exact hb i hi hR j hj
 ·intro i hi c hc
  have hd := h.diag i hi c hc
  unfold swapRow
  by_cases e : i = k
  ·rw [if_pos e, h.diag a ha c hc, if_neg (by omega), if_neg (by omega)]
  ·by_cases e2 : i = a
   ·rw [if_neg e, if_pos e2, h.diag k kR c hc, if_neg (by omega), if_neg (by omega)]
   ·rw [if_neg e, if_neg e2, hd]
theorem ElimSt.next {R n k : Nat} {D : Int} {M A : Nat → Nat → Int} (h : ElimSt R n k D M A) (hk : k < R) (hc : k < n) (h0 : M k k ≠ 0) : ElimSt R n (k + 1) (M k k) (barStep (fun _ => true) M k k D) A := by
 obtain ⟨P, σ, b, hD, hσ, hb, hl⟩ := h.dets
 have hnz : DR k P σ ≠ 0 := by rw [hD]; exact h.nz
 have hp : ∀ j, j < n → M k j = BR k P σ (b k) j := hb k qN hk
 have hrow : ∀ i, i ≠ k → ∀ j, barStep (fun _ => true) M k k D i j = (M k k * M i j - M i k * M k j).tdiv D := fun i hi j => by
  unfold barStep; rw [if_pos ⟨rfl, hi⟩]
 have hself : barStep (fun _ => true) M k k D k = M k := by unfold barStep; rw [if_neg (fun h => h.2 rfl)]
 have hhi : ∀ i, k < i → i < R → ∀ j, j < n → M k k * M i j - M i k * M k j = D * BR (k + 1) (sel (b k) P) (sel k σ) (b i) j := fun i hi hR j hj => by
  have := bar_step hnz (b i) (b k) k j
  rw [hD, ← hb i (by omega) hR j hj, ← hp k hc, ← hb i (by omega) hR k hc, ← hp j hj] at this
  rw [← this, Int.mul_comm (M i j)]
 have hlo : ∀ i, i < k → ∀ j, j < n → M k k * M i j - M i k * M k j = D * (M k k * (if j = i then 1 else 0) - BR (k + 1) (sel (b k) P) (sel k σ) (fun x => if x = i then 1 else 0) j) := fun i hi j hj => by
  have := bar_step hnz (fun x => if x = i then 1 else 0) (b k) k j
  rw [hD, ← hp k hc, ← hp j hj] at this
  rw [hl i hi j hj, hl i hi k hc, if_neg (by omega : ¬ k = i), Int.mul_sub D, ← this]
  generalize BR k P σ (fun x => if x = i then 1 else 0) j = X
  generalize BR k P σ (fun x => if x = i then 1 else 0) k = Y
  generalize (if j = i then (1 : Int) else 0) = E
  rw [Int.mul_zero, Int.zero_sub, Int.neg_mul, Int.sub_neg, Int.mul_sub, Int.mul_comm X, Int.mul_left_comm (M k k) D]
  omega
 have hkk : ∀ j, j < n → M k j = M k k * (if j = k then 1 else 0) - BR (k + 1) (sel (b k) P) (sel k σ) (fun x => if x = k then 1 else 0) j := fun j hj => by
  have := bar_step hnz (fun x => if x = k then 1 else 0) (b k) k j
  rw [hD, ← hp k hc, ← hp j hj, BR_unit k P σ _ j (fun s hs => if_neg (by have := hσ s hs; omega)), BR_unit k P σ _ k (fun s hs => if_neg (by have := hσ s hs; omega)), hD, if_pos rfl] at this
  have e : D * (M k k * (if j = k then 1 else 0) - M k j) = D * BR (k + 1) (sel (b k) P) (sel k σ) (fun x => if x = k then 1 else 0) j := by
   rw [← this, Int.mul_sub, Int.mul_one]
   generalize (if j = k then (1 : Int) else 0) = E
   rw [Int.mul_assoc, Int.mul_comm E]
  have := Int.eq_of_mul_eq_mul_left h.nz e
  omega
 refine ⟨(span_step hk h.nz h0 fun i hi _ hik j hj => ?_).symm.trans h.span, ⟨sel (b k) P, sel k σ, b, by rw [DR_succ]; exact (hp k hc).symm, ?_, fun i hi hR j hj => ?_, fun i hi j hj => ?_⟩, fun i hi c hcc => ?_, h0⟩
 ·rcases Nat.lt_or_gt_of_ne hik with e | e
  ·exact ⟨_, hlo i e j hj⟩
  ·exact ⟨_, hhi i e hi j hj⟩
 ·intro s hs
  cases s with
  | zero => show k < k + 1; omega
  | succ s => show σ s < k + 1; have := hσ s (by omega); omega
 ·rw [hrow i (by omega) j, hhi i (by omega) hR j hj, Int.mul_tdiv_cancel_left _ h.nz]
 ·by_cases e : i = k
  ·subst e; rw [hself]; exact hkk j hj
  ·rw [hrow i e j, hlo i (by omega) j hj, Int.mul_tdiv_cancel_left _ h.nz]
 ·by_cases e : i = k
  ·subst e
   rw [hself]
   by_cases e2 : i = c
   ·rw [if_pos e2, e2]
   ·rw [if_neg e2, h.diag i hi c (by omega), if_neg e2]
  ·rw [hrow i e c]
   by_cases e2 : c = k
   ·subst e2
    rw [if_neg e, Int.mul_comm, Int.sub_self]; exact Int.zero_tdiv _
   ·rw [h.diag i hi c (by omega), h.diag k hk c (by omega), if_neg (fun h : k = c => e2 h.symm), Int.mul_zero, Int.sub_zero]
    by_cases e3 : i = c
    ·rw [if_pos e3, if_pos e3, Int.mul_tdiv_cancel _ h.nz]
    ·rw [if_neg e3, if_neg e3, Int.mul_zero]; exact Int.zero_tdiv _
end Go.Proofs.YtfminfgabiipjaaGreatDoor
end
section
namespace Go.Proofs.YtfminfgabiipjaaGreatDoor
def Sing (R : Nat) (A : Nat → Nat → Rat) : Prop := ∃ y : Nat → Rat, (∃ j, j < R ∧ y j ≠ 0) ∧ ∀ i, i < R → sumQ R (fun j => A i j * y j) = 0
def Solves (R : Nat) (A : Nat → Nat → Rat) (b x : Nat → Rat) : Prop := ∀ i, i < R → sumQ R (fun j => A i j * x j) = b i
theorem Solves.uniq {R : Nat} {A : Nat → Nat → Rat} {b x y : Nat → Rat} (h : ¬ Sing R A) (hx : Solves R A b x) (hy : Solves R A b y) : ∀ i, i < R → x i = y i := by
 intro i hi
 apply Classical.byContradiction
 intro hne
 refine h ⟨fun j => x j - y j, ⟨i, hi, fun h => hne (by grind)⟩, fun k hk => ?_⟩
 have e : sumQ R (fun j => A k j * (x j - y j)) = sumQ R (fun j => A k j * x j) + (-1) * sumQ R (fun j => A k j * y j) := by
  rw [← sumQ_mul, ← sumQ_add]; exact sumQ_congr fun j _ => by grind
 rw [e, hx k hk, hy k hk]; grind
theorem Sing.congr {R : Nat} {A B : Nat → Nat → Rat} (h : Sing R A) (e : ∀ i, i < R → ∀ j, j < R → A i j = B i j) : Sing R B := by
 obtain ⟨y, hy, h0⟩ := h
 exact ⟨y, hy, fun i hi => by rw [← h0 i hi]; exact sumQ_congr fun j hj => by rw [e i hi j hj]⟩
theorem Solves.congr {R : Nat} {A B : Nat → Nat → Rat} {b c x y : Nat → Rat} (h : Solves R A b x) (e : ∀ i, i < R → ∀ j, j < R → A i j = B i j) (eb : ∀ i, i < R → b i = c i) (ex : ∀ i, i < R → x i = y i) : Solves R B c y := fun i hi => by
 rw [← eb i hi, ← h i hi]; exact sumQ_congr fun j hj => by rw [e i hi j hj, ex j hj]
theorem Span.kill {R n : Nat} {A : Nat → Nat → Rat} {v y : Nat → Rat} (h : Span R n A v) (h0 : ∀ i, i < R → sumQ n (fun j => A i j * y j) = 0) : sumQ n (fun j => v j * y j) = 0 := by
 obtain ⟨c, hc⟩ := h
 have e : sumQ n (fun j => v j * y j) = sumQ n fun j => sumQ R fun i => c i * (A i j * y j) := sumQ_congr fun j hj => by
  rw [hc j hj, show sumQ R (fun i => c i * A i j) * y j = y j * sumQ R (fun i => c i * A i j) by grind, ← sumQ_mul]
  exact sumQ_congr fun i _ => by grind
 rw [e, sumQ_comm]
 refine sumQ_zero _ _ fun i hi => ?_
 rw [sumQ_mul, h0 i hi]; grind
theorem sumQ_last (n : Nat) (f x : Nat → Rat) (a : Rat) : sumQ (n + 1) (fun j => f j * (if j < n then x j else a)) = sumQ n (fun j => f j * x j) + f n * a := by
 show sumQ n _ + f n * (if n < n then x n else a) = _
 rw [if_neg (Nat.lt_irrefl n)]
 congr 1
 exact sumQ_congr fun j hj => by rw [if_pos hj]
theorem elim_sing {R n k : Nat} {D : Int} {M A : Nat → Nat → Int} (h : ElimSt R n k D M A) (hn : R ≤ n) (hk : k < R) (h0 : ∀ i, k ≤ i → i < R → M i k = 0) : Sing R (castM A) := by
 have hD : (D : Rat) ≠ 0 := by exact_mod_cast h.nz
 refine ⟨fun j => if j < k then -(M j k : Rat) else if j = k then (D : Rat) else 0, ⟨k, hk, by simp only [Nat.lt_irrefl, if_false, if_true]; exact hD⟩, ?_⟩
 have hM : ∀ i, i < R → sumQ n (fun j => castM M i j * (if j < k then -(M j k : Rat) else if j = k then (D : Rat) else 0)) = 0 := by
  intro i hi
  by_cases hik : i < k
  ·rw [sumQ_two n i k _ (by omega) (by omega) (by omega) fun j hj hji hjk => by
    by_cases e : j < k
    ·show (M i j : Rat) * _ = 0
     rw [h.diag i hi j e, if_neg (fun h => hji h.symm)]; simp
    ·rw [if_neg e, if_neg hjk]; grind]
   rw [if_pos hik, if_neg (Nat.lt_irrefl k), if_pos rfl]
   show (M i i : Rat) * _ + (M i k : Rat) * _ = 0
   rw [h.diag i hi i hik, if_pos rfl]; grind
  ·refine sumQ_zero _ _ fun j hj => ?_
   by_cases e : j < k
   ·show (M i j : Rat) * _ = 0
    rw [h.diag i hi j e, if_neg (by omega)]; simp
   ·by_cases e2 : j = k
    ·show (M i j : Rat) * _ = 0
     rw [e2, h0 i (by omega) hi]; simp
    ·rw [if_neg e, if_neg e2]; grind
 intro i hi
 have hkill := (h.span.2 i hi).kill hM
 have e : sumQ n (fun j => castM A i j * (if j < k then -(M j k : Rat) else if j = k then (D : Rat) else 0)) = sumQ R (fun j => castM A i j * (if j < k then -(M j k : Rat) else if j = k then (D : Rat) else 0)) := by
  obtain ⟨m, rfl⟩ : ∃ m, n = R + m := ⟨n - R, by omega⟩
  rw [sumQ_nat_add, sumQ_zero m _ fun j _ => by rw [if_neg (by omega), if_neg (by omega)]; grind]
  grind
 rw [e] at hkill
 exact hkill
theorem elim_sol {R : Nat} {z : Int} {M A : Nat → Nat → Int} (h : ElimSt R (R + 1) R z M A) : Solves R (castM A) (fun i => castM A i R) (fun i => (M i R : Rat) / z) ∧ ¬ Sing R (castM A) := by
 have hz : (z : Rat) ≠ 0 := by exact_mod_cast h.nz
 have hM : ∀ (x : Nat → Rat) (a : Rat) i, i < R → sumQ (R + 1) (fun j => castM M i j * (if j < R then x j else a)) = z * x i + M i R * a := by
  intro x a i hi
  rw [sumQ_last, sumQ_one R i _ hi fun j hj hji => by show (M i j : Rat) * _ = 0; rw [h.diag i hi j hj, if_neg (fun h => hji h.symm)]; simp]
  show (M i i : Rat) * x i + (M i R : Rat) * a = _
  rw [h.diag i hi i hi, if_pos rfl]
 refine ⟨fun i hi => ?_, ?_⟩
 ·have := (h.span.2 i hi).kill (y := fun j => if j < R then (M j R : Rat) / z else -1) fun i hi => by rw [hM _ _ i hi]; grind
  rw [sumQ_last] at this
  show sumQ R _ = castM A i R
  grind
 ·rintro ⟨y, ⟨j, hj, hy⟩, h0⟩
  have := (h.span.1 j hj).kill (y := fun j => if j < R then y j else 0) fun i hi => by rw [sumQ_last, h0 i hi]; grind
  rw [hM _ _ j hj] at this
  apply hy
  have : (z : Rat) * y j = 0 := by grind
  rcases Rat.mul_eq_zero.1 this with h | h
  ·exact absurd h hz
  ·exact h
end Go.Proofs.YtfminfgabiipjaaGreatDoor
end
section
namespace Go.Proofs.YtfminfgabiipjaaGreatDoor
def resR (n : Nat) (A : Nat → Nat → Rat) (b z : Nat → Rat) (i : Nat) : Rat := sumQ n (fun j => A i j * z j) - b i
def msR (R n : Nat) (A : Nat → Nat → Rat) (b w z : Nat → Rat) : Rat := sumQ R fun i => w i * (resR n A b z i * resR n A b z i)
end Go.Proofs.YtfminfgabiipjaaGreatDoor
end
