/- Aa, part 27: Sol Bst -/
import Derived.Test.YtfminfgabiipjaaGreatDoorAa0
import Derived.Test.YtfminfgabiipjaaGreatDoorAa2
set_option maxRecDepth 100000
set_option maxHeartbeats 16000000
namespace Go.Proofs.YtfminfgabiipjaaGreatDoor
def Sing (R : Nat) (A : Nat → Nat → Rat) : Prop := ∃ y : Nat → Rat, (∃ j, j < R ∧ y j ≠ 0) ∧ ∀ i, i < R → sumQ R (fun j => A i j * y j) = 0
def qcy (R : Nat) (A : Nat → Nat → Rat) (b x : Nat → Rat) : Prop := ∀ i, i < R → sumQ R (fun j => A i j * x j) = b i
theorem qcy.uniq {R : Nat} {A : Nat → Nat → Rat} {b x y : Nat → Rat} (h : ¬ Sing R A) (hx : qcy R A b x) (hy : qcy R A b y) : ∀ i, i < R → x i = y i := by
 intro i hi
 apply Classical.byContradiction
 intro hne
 refine h ⟨fun j => x j - y j, ⟨i, hi, fun h => hne (by grind)⟩, fun k hk => ?_⟩
 have e : sumQ R (fun j => A k j * (x j - y j)) = sumQ R (fun j => A k j * x j) + (-1) * sumQ R (fun j => A k j * y j) := by
  rw [← qcd, ← qdz]; exact qb0 fun j _ => by grind
 rw [e, hx k hk, hy k hk]; grind
theorem Sing.congr {R : Nat} {A B : Nat → Nat → Rat} (h : Sing R A) (e : ∀ i, i < R → ∀ j, j < R → A i j = B i j) : Sing R B := by
 obtain ⟨y, hy, h0⟩ := h
 exact ⟨y, hy, fun i hi => by rw [← h0 i hi]; exact qb0 fun j hj => by rw [e i hi j hj]⟩
theorem qcy.congr {R : Nat} {A B : Nat → Nat → Rat} {b c x y : Nat → Rat} (h : qcy R A b x) (e : ∀ i, i < R → ∀ j, j < R → A i j = B i j) (eb : ∀ i, i < R → b i = c i) (ex : ∀ i, i < R → x i = y i) : qcy R B c y := fun i hi => by
 rw [← eb i hi, ← h i hi]; exact qb0 fun j hj => by rw [e i hi j hj, ex j hj]
theorem Span.kill {R n : Nat} {A : Nat → Nat → Rat} {v y : Nat → Rat} (h : Span R n A v) (h0 : ∀ i, i < R → sumQ n (fun j => A i j * y j) = 0) : sumQ n (fun j => v j * y j) = 0 := by
 obtain ⟨c, hc⟩ := h
 have e : sumQ n (fun j => v j * y j) = sumQ n fun j => sumQ R fun i => c i * (A i j * y j) := qb0 fun j hj => by
  rw [hc j hj, show sumQ R (fun i => c i * A i j) * y j = y j * sumQ R (fun i => c i * A i j) by grind, ← qcd]
  exact qb0 fun i _ => by grind
 rw [e, qdr]
 refine qcO _ _ fun i hi => ?_
 rw [qcd, h0 i hi]; grind
theorem qg2 (n : Nat) (f x : Nat → Rat) (a : Rat) : sumQ (n + 1) (fun j => f j * (if j < n then x j else a)) = sumQ n (fun j => f j * x j) + f n * a := by
 show sumQ n _ + f n * (if n < n then x n else a) = _
 rw [if_neg (qbO n)]
 congr 1
 exact qb0 fun j hj => by rw [if_pos hj]
theorem qh9 {R n k : Nat} {D : Int} {M A : Nat → Nat → Int} (h : ElimSt R n k D M A) (hn : R ≤ n) (hk : k < R) (h0 : ∀ i, k ≤ i → i < R → M i k = 0) : Sing R (castM A) := by
 have hD : (D : Rat) ≠ 0 := by exact_mod_cast h.nz
 refine ⟨fun j => if j < k then -(M j k : Rat) else if j = k then (D : Rat) else 0, ⟨k, hk, by simp only [qbO, if_false, if_true]; exact hD⟩, ?_⟩
 have hM : ∀ i, i < R → sumQ n (fun j => castM M i j * (if j < k then -(M j k : Rat) else if j = k then (D : Rat) else 0)) = 0 := by
  intro i hi
  by_cases hik : i < k
  ·rw [sumQ_two n i k _ (by omega) (by omega) (by omega) fun j hj hji hjk => by
    by_cases e : j < k
    ·show (M i j : Rat) * _ = 0
     rw [h.diag i hi j e, if_neg (fun h => hji h.symm)]; simp
    ·rw [if_neg e, if_neg hjk]; grind]
   rw [if_pos hik, if_neg (qbO k), if_pos rfl]
   show (M i i : Rat) * _ + (M i k : Rat) * _ = 0
   rw [h.diag i hi i hik, if_pos rfl]; grind
  ·refine qcO _ _ fun j hj => ?_
   by_cases e : j < k
   ·show (M i j : Rat) * _ = 0
    rw [h.diag i hi j e, if_neg (by omega)]; simp
   ·by_cases e2 : j = k
    ·show (M i j : Rat) * _ = 0
     rw [e2, h0 i (by omega) hi]; simp
    ·rw [if_neg e, if_neg e2]; grind
 intro i hi
 have hkill := (h.span.2 i hi).kill hM
 have e : sumQ n (fun j => castM A i j * (if j < k then -(M j k : Rat) else if j = k then (D : Rat) else 0)) = sumQ R (fun j => castM A i j * (if j < k then -(M j k : Rat) else if j = k then (D : Rat) else 0)) := by
  obtain ⟨m, rfl⟩ : ∃ m, n = R + m := ⟨n - R, by omega⟩
  rw [qge, qcO m _ fun j _ => by rw [if_neg (by omega), if_neg (by omega)]; grind]
  grind
 rw [e] at hkill
 exact hkill
theorem qfj {R : Nat} {z : Int} {M A : Nat → Nat → Int} (h : ElimSt R (R + 1) R z M A) : qcy R (castM A) (fun i => castM A i R) (fun i => (M i R : Rat) / z) ∧ ¬ Sing R (castM A) := by
 have hz : (z : Rat) ≠ 0 := by exact_mod_cast h.nz
 have hM : ∀ (x : Nat → Rat) (a : Rat) i, i < R → sumQ (R + 1) (fun j => castM M i j * (if j < R then x j else a)) = z * x i + M i R * a := by
  intro x a i hi
  rw [qg2, qdI R i _ hi fun j hj hji => by show (M i j : Rat) * _ = 0; rw [h.diag i hi j hj, if_neg (fun h => hji h.symm)]; simp]
  show (M i i : Rat) * x i + (M i R : Rat) * a = _
  rw [h.diag i hi i hi, if_pos rfl]
 refine ⟨fun i hi => ?_, ?_⟩
 ·have := (h.span.2 i hi).kill (y := fun j => if j < R then (M j R : Rat) / z else -1) fun i hi => by rw [hM _ _ i hi]; grind
  rw [qg2] at this
  show sumQ R _ = castM A i R
  grind
 ·rintro ⟨y, ⟨j, hj, hy⟩, h0⟩
  have := (h.span.1 j hj).kill (y := fun j => if j < R then y j else 0) fun i hi => by rw [qg2, h0 i hi]; grind
  rw [hM _ _ j hj] at this
  apply hy
  have : (z : Rat) * y j = 0 := by grind
  rcases qbL.1 this with h | h
  ·exact absurd h hz
  ·exact h
theorem qfd : ∀ {n : Nat} {f : Nat → Rat}, (∀ i, i < n → 0 ≤ f i) → 0 ≤ sumQ n f
 | 0, _, _ => by show (0 : Rat) ≤ 0; exact Rat.le_refl
 | n + 1, f, h => by
  have h1 := qfd (n := n) (f := f) fun i hi => h i (by omega)
  have h2 := h n (by omega)
  show 0 ≤ sumQ n f + f n
  grind
theorem qdE : ∀ {n : Nat} {f : Nat → Rat}, (∀ i, i < n → 0 ≤ f i) → sumQ n f = 0 → ∀ i, i < n → f i = 0
 | 0, _, _, _, i, hi => absurd hi (by omega)
 | n + 1, f, h, h0, i, hi => by
  have h1 := qfd (n := n) (f := f) fun i hi => h i (by omega)
  have h2 := h n (by omega)
  have h3 : sumQ n f + f n = 0 := h0
  by_cases e : i = n
  ·rw [e]; grind
  ·exact qdE (n := n) (f := f) (fun i hi => h i (by omega)) (by grind) i (by omega)
theorem qiC (a : Rat) : 0 ≤ a * a := by
 rcases Rat.le_total (a := 0) (b := a) with h | h
 ·exact Rat.mul_nonneg h h
 ·have := Rat.mul_nonneg (a := -a) (b := -a) (by grind) (by grind)
  grind
theorem qjT (n : Nat) (f g : Nat → Rat) : sumQ n (fun i => f i - g i) = sumQ n f - sumQ n g := by
 have h := qdz n f fun i => (-1) * g i
 rw [qcd] at h
 rw [show sumQ n (fun i => f i - g i) = sumQ n (fun i => f i + (-1) * g i) from qb0 fun i _ => by grind, h]; grind
def resR (n : Nat) (A : Nat → Nat → Rat) (b z : Nat → Rat) (i : Nat) : Rat := sumQ n (fun j => A i j * z j) - b i
def msR (R n : Nat) (A : Nat → Nat → Rat) (b w z : Nat → Rat) : Rat := sumQ R fun i => w i * (resR n A b z i * resR n A b z i)
theorem best_law {R n : Nat} (A : Nat → Nat → Rat) (b w x y : Nat → Rat) (hw : ∀ i, i < R → 0 ≤ w i) (hx : ∀ r, r < n → sumQ n (fun c => sumQ R (fun i => w i * (A i r * A i c)) * x c) = sumQ R fun i => w i * (A i r * b i))
  (hs : ¬ Sing n (fun r c => sumQ R fun i => w i * (A i r * A i c))) : msR R n A b w x ≤ msR R n A b w y ∧ (msR R n A b w x = msR R n A b w y ↔ ∀ j, j < n → x j = y j) := by
 have he : ∀ i, resR n A b y i = resR n A b x i + sumQ n (fun j => A i j * (y j - x j)) := fun i => by
  unfold resR
  rw [show sumQ n (fun j => A i j * (y j - x j)) = sumQ n (fun j => A i j * y j) - sumQ n (fun j => A i j * x j) by
   rw [← qjT]; exact qb0 fun j _ => by grind]
  grind
 obtain ⟨e, hee⟩ : ∃ e : Nat → Rat, ∀ i, sumQ n (fun j => A i j * (y j - x j)) = e i := ⟨_, fun _ => rfl⟩
 have hcross : sumQ R (fun i => w i * (resR n A b x i * e i)) = 0 := by
  have h1 : sumQ R (fun i => w i * (resR n A b x i * e i)) = sumQ R fun i => sumQ n fun j => (y j - x j) * (w i * (A i j * resR n A b x i)) := qb0 fun i _ => by
   rw [← hee i, show w i * (resR n A b x i * sumQ n fun j => A i j * (y j - x j)) = (w i * resR n A b x i) * sumQ n fun j => A i j * (y j - x j) by grind, ← qcd]
   exact qb0 fun j _ => by grind
  rw [h1, qdr]
  refine qcO _ _ fun j hj => ?_
  rw [qcd]
  have h2 : sumQ R (fun i => w i * (A i j * resR n A b x i)) = 0 := by
   have h3 := hx j hj
   have h4 : sumQ n (fun c => sumQ R (fun i => w i * (A i j * A i c)) * x c) = sumQ R fun i => w i * (A i j * sumQ n fun c => A i c * x c) := by
    have h5 : sumQ n (fun c => sumQ R (fun i => w i * (A i j * A i c)) * x c) = sumQ n fun c => sumQ R fun i => x c * (w i * (A i j * A i c)) := qb0 fun c _ => by rw [qcd]; grind
    rw [h5, qdr]
    refine qb0 fun i _ => ?_
    rw [show w i * (A i j * sumQ n fun c => A i c * x c) = (w i * A i j) * sumQ n fun c => A i c * x c by grind, ← qcd]
    exact qb0 fun c _ => by grind
   rw [h4] at h3
   rw [show sumQ R (fun i => w i * (A i j * resR n A b x i)) = sumQ R (fun i => w i * (A i j * sumQ n fun c => A i c * x c)) - sumQ R (fun i => w i * (A i j * b i)) by
    rw [← qjT]
    refine qb0 fun i _ => ?_
    unfold resR; grind, h3]
   grind
  rw [h2]; grind
 have hsum : msR R n A b w y = msR R n A b w x + sumQ R (fun i => w i * (e i * e i)) := by
  have h1 : msR R n A b w y = sumQ R fun i => (w i * (resR n A b x i * resR n A b x i) + 2 * (w i * (resR n A b x i * e i))) + w i * (e i * e i) := qb0 fun i _ => by
   rw [he i, hee i]; grind
  rw [h1, qdz, qdz, qcd, hcross]
  unfold msR; grind
 have hpos : ∀ i, i < R → 0 ≤ w i * (e i * e i) := fun i hi => Rat.mul_nonneg (hw i hi) (qiC _)
 have h0 := qfd hpos
 refine ⟨by rw [hsum]; grind, fun hE => ?_, fun hE => ?_⟩
 ·have hz : sumQ R (fun i => w i * (e i * e i)) = 0 := by grind
  have hz2 := qdE hpos hz
  have hwe : ∀ i, i < R → w i * e i = 0 := fun i hi => by
   have := hz2 i hi
   rcases qbL.1 this with h | h
   ·rw [h]; grind
   ·rcases qbL.1 h with h | h <;> rw [h] <;> grind
  intro j hj
  apply Classical.byContradiction
  intro hne
  refine hs ⟨fun c => y c - x c, ⟨j, hj, fun h => hne (by grind)⟩, fun r hr => ?_⟩
  have h5 : sumQ n (fun c => sumQ R (fun i => w i * (A i r * A i c)) * (y c - x c)) = sumQ n fun c => sumQ R fun i => (y c - x c) * (w i * (A i r * A i c)) := qb0 fun c _ => by rw [qcd]; grind
  rw [h5, qdr]
  refine qcO _ _ fun i hi => ?_
  have h6 : sumQ n (fun c => (y c - x c) * (w i * (A i r * A i c))) = (w i * A i r) * sumQ n fun c => A i c * (y c - x c) := by
   rw [← qcd]; exact qb0 fun c _ => by grind
  rw [h6, hee i]
  have := hwe i hi
  rw [show w i * A i r * e i = A i r * (w i * e i) by grind, this]; grind
 ·refine qb0 fun i _ => ?_
  have : resR n A b x i = resR n A b y i := by
   unfold resR
   rw [show sumQ n (fun j => A i j * x j) = sumQ n (fun j => A i j * y j) from qb0 fun j hj => by rw [hE j hj]]
  rw [this]
theorem qlD {n k : Nat} {A : Nat → Nat → Rat} (h : qcq n n A k) : k = n ↔ ¬ Sing n A := by
 obtain ⟨v, iv, sv⟩ := h
 constructor
 ·rintro rfl ⟨y, ⟨j, hj, hy⟩, h0⟩
  have hv : ∀ i, i < k → sumQ k (fun j => v i j * y j) = 0 := fun i hi => (sv.2 i hi).kill h0
  have hyy : sumQ k (fun j => y j * y j) ≠ 0 := fun h => by
   have := qdE (fun i _ => qiC (y i)) h j hj
   rcases qbL.1 this with h | h <;> exact hy h
  have hind : Indep (k + 1) k (fun i => if i < k then v i else y) := fun c hc => by
   have hc' : ∀ j, j < k → sumQ k (fun i => c i * v i j) + c k * y j = 0 := fun j hj => by
    have h1 := hc j hj
    have h2 : sumQ (k + 1) (fun i => c i * (if i < k then v i else y) j) = sumQ k (fun i => c i * v i j) + c k * y j := by
     show sumQ k _ + c k * (if k < k then v k else y) j = _
     rw [if_neg (qbO k)]
     congr 1
     exact qb0 fun i hi => by rw [if_pos hi]
    rw [← h2]; exact h1
   have hck : c k = 0 := by
    have h3 : sumQ k (fun j => (sumQ k (fun i => c i * v i j) + c k * y j) * y j) = 0 := qcO _ _ fun j hj => by rw [hc' j hj]; grind
    have h4 : sumQ k (fun j => (sumQ k (fun i => c i * v i j) + c k * y j) * y j) = sumQ k (fun j => sumQ k fun i => c i * (v i j * y j)) + c k * sumQ k (fun j => y j * y j) := by
     rw [← qcd, ← qdz]
     refine qb0 fun j _ => ?_
     rw [show sumQ k (fun i => c i * (v i j * y j)) = y j * sumQ k (fun i => c i * v i j) by
      rw [← qcd]; exact qb0 fun i _ => by grind]
     grind
    have h5 : sumQ k (fun j => sumQ k fun i => c i * (v i j * y j)) = 0 := by
     rw [qdr]
     refine qcO _ _ fun i hi => ?_
     rw [qcd, hv i hi]; grind
    rw [h4, h5] at h3
    have h6 : c k * sumQ k (fun j => y j * y j) = 0 := by grind
    rcases qbL.1 h6 with h | h
    ·exact h
    ·exact absurd h hyy
   intro i hi
   by_cases e : i = k
   ·rw [e]; exact hck
   ·refine iv c (fun j hj => ?_) i (by omega)
    have := hc' j hj
    rw [hck] at this; grind
  have := qfB (m := k) (fun i _ => qhs k _) hind
  omega
 ·intro hs
  have hle := qcq.le_cols ⟨v, iv, sv⟩
  rcases qbk k n with h | h
  ·exfalso
   obtain ⟨c, hc0, hc⟩ := qes k n (fun i l => v l i) h
   exact hs ⟨c, hc0, fun i hi => (sv.1 i hi).kill fun l hl => by
    rw [← hc l hl]; exact qb0 fun j _ => by grind⟩
  ·omega
def bd (B : Nat) : Nat → Nat
 | 0 => B
 | k + 1 => 2 * (bd B k * bd B k)
theorem bd_pos {B : Nat} (h : 1 ≤ B) : ∀ k, 1 ≤ bd B k
 | 0 => h
 | k + 1 => by
  have := bd_pos h k
  have := qbe this this
  show 1 ≤ 2 * (bd B k * bd B k); omega
theorem qkE {B : Nat} (h : 1 ≤ B) (k : Nat) : bd B k ≤ bd B (k + 1) := by
 have h1 := bd_pos h k
 have := qaI (bd B k) h1
 show bd B k ≤ 2 * (bd B k * bd B k); omega
theorem cross_le {a b c d D : Int} {N : Nat} (ha : a.natAbs ≤ N) (hb : b.natAbs ≤ N) (hc : c.natAbs ≤ N) (hd : d.natAbs ≤ N) : ((a * b - c * d).tdiv D).natAbs ≤ 2 * (N * N) := by
 have h1 : (a * b).natAbs ≤ N * N := by rw [qax]; exact qbe ha hb
 have h2 : (c * d).natAbs ≤ N * N := by rw [qax]; exact qbe hc hd
 have h3 : (a * b - c * d).natAbs ≤ 2 * (N * N) := by omega
 exact qam (by rw [Int.natAbs_tdiv]; exact qaR _ _) h3
theorem qhd {n : Nat} {A : Nat → Nat → Int} {B : Nat} (hB1 : 1 ≤ B) (hB : ∀ i, i < n → ∀ j, j < n + 1 → (A i j).natAbs ≤ B) (hs : ¬ Sing n (castM A)) : ∀ k, k ≤ n → ∃ D M, ElimSt n (n + 1) k D M A ∧ D.natAbs ≤ bd B k ∧ ∀ i, i < n → ∀ j, j < n + 1 → (M i j).natAbs ≤ bd B k
 | 0, _ => ⟨1, A, ElimSt.start n (n + 1) A, hB1, hB⟩
 | k + 1, hk => by
  obtain ⟨D, M, h, hD, hM⟩ := qhd hB1 hB hs k (by omega)
  by_cases h0 : ∀ i, k ≤ i → i < n → M i k = 0
  ·exact absurd (qh9 h (by omega) (by omega) h0) hs
  ·have : ∃ a, k ≤ a ∧ a < n ∧ M a k ≠ 0 := by
    apply Classical.byContradiction
    intro hn
    exact h0 fun i hi hR => Classical.byContradiction fun hc => hn ⟨i, hi, hR, hc⟩
   obtain ⟨a, ha, han, hne⟩ := this
   have h1 := h.swap ha han
   have hM1 : ∀ i, i < n → ∀ j, j < n + 1 → (qcf M k a i j).natAbs ≤ bd B k := fun i hi j hj => by
    unfold qcf
    split
    ·exact hM a han j hj
    ·split
     ·exact hM k (by omega) j hj
     ·exact hM i hi j hj
   have hkk : qcf M k a k = M a := by unfold qcf; rw [if_pos rfl]
   have h2 := h1.next (by omega) (by omega) (by rw [hkk]; exact hne)
   refine ⟨_, _, h2, qam (hM1 k (by omega) k (by omega)) (qkE hB1 k), fun i hi j hj => ?_⟩
   unfold qcb
   split
   ·exact cross_le (hM1 k (by omega) k (by omega)) (hM1 i hi j hj) (hM1 i hi k (by omega)) (hM1 k (by omega) j hj)
   ·exact qam (hM1 i hi j hj) (qkE hB1 k)
theorem qiy {n : Nat} {A : Nat → Nat → Int} {B : Nat} (hB1 : 1 ≤ B) (hB : ∀ i, i < n → ∀ j, j < n + 1 → (A i j).natAbs ≤ B) (hs : ¬ Sing n (castM A)) {x : Nat → Rat} (hx : qcy n (castM A) (fun i => castM A i n) x) :
  ∃ (z : Int) (p : Nat → Int), z ≠ 0 ∧ z.natAbs ≤ bd B n ∧ ∀ i, i < n → (p i).natAbs ≤ bd B n ∧ x i = (p i : Rat) / z := by
 obtain ⟨z, M, h, hz, hM⟩ := qhd hB1 hB hs n (qaf n)
 have h1 := qfj h
 exact ⟨z, fun i => M i n, h.nz, hz, fun i hi => ⟨hM i hi n (by omega), hx.uniq h1.2 h1.1 i hi⟩⟩
end Go.Proofs.YtfminfgabiipjaaGreatDoor
