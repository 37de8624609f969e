/- Aa, part 27: Sol Bst -/
import Derived.Test.YtfminfgabiipjaaGreatDoorAa0
import Derived.Test.YtfminfgabiipjaaGreatDoorAa2
set_option maxRecDepth 100000
set_option maxHeartbeats 16000000
namespace Go.Proofs.YtfminfgabiipjaaGreatDoor
def Sing (R : Nat) (A : Nat → Nat → Rat) : Prop := ∃ y : Nat → Rat, (∃ j, j < R ∧ y j ≠ 0) ∧ ∀ i, i < R → sumQ R (fun j => A i j * y j) = 0
def qcA (R : Nat) (A : Nat → Nat → Rat) (b x : Nat → Rat) : Prop := ∀ i, i < R → sumQ R (fun j => A i j * x j) = b i
theorem qcA.uniq {R : Nat} {A : Nat → Nat → Rat} {b x y : Nat → Rat} (h : ¬ Sing R A) (hx : qcA R A b x) (hy : qcA R A b y) : ∀ i, i < R → x i = y i := by
 intro i hi
 apply Classical.byContradiction
 intro hne
 refine h ⟨fun j => x j - y j, ⟨i, hi, fun h => hne (by grind)⟩, fun k hk => ?_⟩
 have e : sumQ R (fun j => A k j * (x j - y j)) = sumQ R (fun j => A k j * x j) + (-1) * sumQ R (fun j => A k j * y j) := by
  rw [← qcj, ← qdB]; exact qb5 fun j _ => by grind
 rw [e, hx k hk, hy k hk]; grind
theorem Sing.congr {R : Nat} {A B : Nat → Nat → Rat} (h : Sing R A) (e : ∀ i, i < R → ∀ j, j < R → A i j = B i j) : Sing R B := by
 obtain ⟨y, hy, h0⟩ := h
 exact ⟨y, hy, fun i hi => by rw [← h0 i hi]; exact qb5 fun j hj => by rw [e i hi j hj]⟩
theorem qcA.congr {R : Nat} {A B : Nat → Nat → Rat} {b c x y : Nat → Rat} (h : qcA R A b x) (e : ∀ i, i < R → ∀ j, j < R → A i j = B i j) (eb : ∀ i, i < R → b i = c i) (ex : ∀ i, i < R → x i = y i) : qcA R B c y := fun i hi => by
 rw [← eb i hi, ← h i hi]; exact qb5 fun j hj => by rw [e i hi j hj, ex j hj]
theorem Span.kill {R n : Nat} {A : Nat → Nat → Rat} {v y : Nat → Rat} (h : Span R n A v) (h0 : ∀ i, i < R → sumQ n (fun j => A i j * y j) = 0) : sumQ n (fun j => v j * y j) = 0 := by
 obtain ⟨c, hc⟩ := h
 have e : sumQ n (fun j => v j * y j) = sumQ n fun j => sumQ R fun i => c i * (A i j * y j) := qb5 fun j hj => by
  rw [hc j hj, show sumQ R (fun i => c i * A i j) * y j = y j * sumQ R (fun i => c i * A i j) by grind, ← qcj]
  exact qb5 fun i _ => by grind
 rw [e, qdC]
 refine qcW _ _ fun i hi => ?_
 rw [qcj, h0 i hi]; grind
theorem qhq (n : Nat) (f x : Nat → Rat) (a : Rat) : sumQ (n + 1) (fun j => f j * (if j < n then x j else a)) = sumQ n (fun j => f j * x j) + f n * a := by
 show sumQ n _ + f n * (if n < n then x n else a) = _
 rw [if_neg (qby n)]
 congr 1
 exact qb5 fun j hj => by rw [if_pos hj]
theorem qiG {R n k : Nat} {D : Int} {M A : Nat → Nat → Int} (h : ElimSt R n k D M A) (hn : R ≤ n) (hk : k < R) (h0 : ∀ i, k ≤ i → i < R → M i k = 0) : Sing R (castM A) := by
 have hD : (D : Rat) ≠ 0 := by exact_mod_cast h.nz
 refine ⟨fun j => if j < k then -(M j k : Rat) else if j = k then (D : Rat) else 0, ⟨k, hk, by simp only [qby, if_false, if_true]; exact hD⟩, ?_⟩
 have hM : ∀ i, i < R → sumQ n (fun j => castM M i j * (if j < k then -(M j k : Rat) else if j = k then (D : Rat) else 0)) = 0 := by
  intro i hi
  by_cases hik : i < k
  ·rw [sumQ_two n i k _ (by omega) (by omega) (by omega) fun j hj hji hjk => by
    by_cases e : j < k
    ·show (M i j : Rat) * _ = 0
     rw [h.diag i hi j e, if_neg (fun h => hji h.symm)]; simp
    ·rw [if_neg e, if_neg hjk]; grind]
   rw [if_pos hik, if_neg (qby k), if_pos rfl]
   show (M i i : Rat) * _ + (M i k : Rat) * _ = 0
   rw [h.diag i hi i hik, if_pos rfl]; grind
  ·refine qcW _ _ fun j hj => ?_
   by_cases e : j < k
   ·show (M i j : Rat) * _ = 0
    rw [h.diag i hi j e, if_neg (by omega)]; simp
   ·by_cases e2 : j = k
    ·show (M i j : Rat) * _ = 0
     rw [e2, h0 i (by omega) hi]; simp
    ·rw [if_neg e, if_neg e2]; grind
 intro i hi
 have hkill := (h.span.2 i hi).kill hM
 have e : sumQ n (fun j => castM A i j * (if j < k then -(M j k : Rat) else if j = k then (D : Rat) else 0)) = sumQ R (fun j => castM A i j * (if j < k then -(M j k : Rat) else if j = k then (D : Rat) else 0)) := by
  obtain ⟨m, rfl⟩ : ∃ m, n = R + m := ⟨n - R, by omega⟩
  rw [qgB, qcW m _ fun j _ => by rw [if_neg (by omega), if_neg (by omega)]; grind]
  grind
 rw [e] at hkill
 exact hkill
theorem qfB {R : Nat} {z : Int} {M A : Nat → Nat → Int} (h : ElimSt R (R + 1) R z M A) : qcA R (castM A) (fun i => castM A i R) (fun i => (M i R : Rat) / z) ∧ ¬ Sing R (castM A) := by
 have hz : (z : Rat) ≠ 0 := by exact_mod_cast h.nz
 have hM : ∀ (x : Nat → Rat) (a : Rat) i, i < R → sumQ (R + 1) (fun j => castM M i j * (if j < R then x j else a)) = z * x i + M i R * a := by
  intro x a i hi
  rw [qhq, qdJ R i _ hi fun j hj hji => by show (M i j : Rat) * _ = 0; rw [h.diag i hi j hj, if_neg (fun h => hji h.symm)]; simp]
  show (M i i : Rat) * x i + (M i R : Rat) * a = _
  rw [h.diag i hi i hi, if_pos rfl]
 refine ⟨fun i hi => ?_, ?_⟩
 ·have := (h.span.2 i hi).kill (y := fun j => if j < R then (M j R : Rat) / z else -1) fun i hi => by rw [hM _ _ i hi]; grind
  rw [qhq] at this
  show sumQ R _ = castM A i R
  grind
 ·rintro ⟨y, ⟨j, hj, hy⟩, h0⟩
  have := (h.span.1 j hj).kill (y := fun j => if j < R then y j else 0) fun i hi => by rw [qhq, h0 i hi]; grind
  rw [hM _ _ j hj] at this
  apply hy
  have : (z : Rat) * y j = 0 := by grind
  rcases qbR.1 this with h | h
  ·exact absurd h hz
  ·exact h
def resR (n : Nat) (A : Nat → Nat → Rat) (b z : Nat → Rat) (i : Nat) : Rat := sumQ n (fun j => A i j * z j) - b i
def msR (R n : Nat) (A : Nat → Nat → Rat) (b w z : Nat → Rat) : Rat := sumQ R fun i => w i * (resR n A b z i * resR n A b z i)
end Go.Proofs.YtfminfgabiipjaaGreatDoor
