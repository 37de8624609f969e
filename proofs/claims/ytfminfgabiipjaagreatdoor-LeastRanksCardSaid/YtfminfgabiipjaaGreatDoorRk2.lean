/- Rk, part 2: Mag4 Mag5 Det Lin -/
import Derived.KernelRfl
import Derived.Test.YtfminfgabiipjaaGreatDoorRk0
import Derived.Test.YtfminfgabiipjaaGreatDoorRk1
section
namespace Go.Proofs.YtfminfgabiipjaaGreatDoor
theorem split2 {v : List Nat} {n : Nat} (hn : 2 ≤ n) (hl : v.length = n) : mval v = (v.getD (n - 1) 0 * 1000000000 + v.getD (n - 2) 0) * 1000000000 ^ (n - 2) + mval (v.take (n - 2)) := by
 have e1 := mval_take_succ v (n - 1)
 have e2 := mval_take_succ v (n - 2)
 rw [show n - 1 + 1 = n by omega, ← hl, List.take_length, hl] at e1
 rw [show n - 2 + 1 = n - 1 by omega] at e2
 rw [e1, e2, show n - 1 = (n - 2) + 1 by omega, Nat.pow_succ]
 generalize 1000000000 ^ (n - 2) = P
 have e3 : P * 1000000000 * v.getD (n - 2 + 1) 0 = v.getD (n - 2 + 1) 0 * 1000000000 * P := by simp only [Nat.mul_comm, Nat.mul_left_comm]
 have e4 : P * v.getD (n - 2) 0 = v.getD (n - 2) 0 * P := Nat.mul_comm _ _
 rw [Nat.add_mul, e3, e4]
 omega
theorem split3 {u : List Nat} {n : Nat} (hn : 2 ≤ n) (hl : u.length = n + 1) : mval u = ((u.getD n 0 * 1000000000 + u.getD (n - 1) 0) * 1000000000 + u.getD (n - 2) 0) * 1000000000 ^ (n - 2) + mval (u.take (n - 2)) := by
 have e0 := mval_take_succ u n
 have h := split2 (v := u.take n) hn (by rw [List.length_take]; omega)
 have g1 : (u.take n).getD (n - 1) 0 = u.getD (n - 1) 0 := by rw [List.getD_eq_getElem?_getD, List.getElem?_take_of_lt (by omega), ← List.getD_eq_getElem?_getD]
 have g2 : (u.take n).getD (n - 2) 0 = u.getD (n - 2) 0 := by rw [List.getD_eq_getElem?_getD, List.getElem?_take_of_lt (by omega), ← List.getD_eq_getElem?_getD]
 rw [← hl, List.take_length] at e0
 rw [g1, g2, List.take_take, Nat.min_eq_left (by omega)] at h
 rw [e0, h, show 1000000000 ^ n = 1000000000 ^ (n - 2) * (1000000000 * 1000000000) by rw [← Nat.pow_two, ← Nat.pow_add]; congr 1; omega]
 generalize 1000000000 ^ (n - 2) = P
 simp only [Nat.add_mul]
 have : P * (1000000000 * 1000000000) * u.getD n 0 = u.getD n 0 * 1000000000 * 1000000000 * P := by
  simp only [Nat.mul_comm, Nat.mul_left_comm]
 omega
structure Est (u v : List Nat) (n : Nat) : Prop where
 two : 2 ≤ n
 lu : u.length = n + 1
 lv : v.length = n
 du : Dig u
 dv : Dig v
 half : 1000000000 ≤ 2 * v.getD (n - 1) 0 + 1
 small : mval u < 1000000000 * mval v
namespace Est
variable {u v : List Nat} {n : Nat}
def top (v : List Nat) (n : Nat) : Nat := v.getD (n - 1) 0
def head (u : List Nat) (n : Nat) : Nat := u.getD n 0 * 1000000000 + u.getD (n - 1) 0
theorem top_pos (h : Est u v n) : 0 < top v n := by have := h.half; unfold top; omega
theorem v_pos (h : Est u v n) : 0 < mval v := by
 rw [split2 h.two h.lv]
 have h1 := h.top_pos
 have h2 := pow_pos9 (n - 2)
 have : 0 < (v.getD (n - 1) 0 * 1000000000 + v.getD (n - 2) 0) * 1000000000 ^ (n - 2) := Nat.mul_pos (by unfold top at h1; omega) h2
 omega
theorem low (h : Est u v n) : mval (u.take (n - 2)) < 1000000000 ^ (n - 2) ∧ mval (v.take (n - 2)) < 1000000000 ^ (n - 2) := by
 have h1 := (h.du.take (n - 2)).lt
 have h2 := (h.dv.take (n - 2)).lt
 rw [List.length_take, Nat.min_eq_left (by have := h.lu; omega)] at h1
 rw [List.length_take, Nat.min_eq_left (by have := h.lv; omega)] at h2
 exact ⟨h1, h2⟩
theorem head_lt (h : Est u v n) : head u n < (top v n + 1) * 1000000000 :=
 est_head (pow_pos9 _) (by decide) (split3 h.two h.lu) (split2 h.two h.lv) (h.dv _) h.low.2 h.small
theorem quot_lt (h : Est u v n) : mval u / mval v < 1000000000 := (Nat.div_lt_iff_lt_mul h.v_pos).2 h.small
theorem first (h : Est u v n) : mval u / mval v ≤ head u n / top v n ∧ head u n / top v n ≤ 1000000002 := by
 refine ⟨est_first (pow_pos9 _) (split3 h.two h.lu) (split2 h.two h.lv) (h.du _) h.low.1 h.top_pos, ?_⟩
 have h1 := h.head_lt
 have h2 := h.half
 have : head u n / top v n < 1000000003 := by
  rw [Nat.div_lt_iff_lt_mul h.top_pos]
  unfold top at *
  omega
 omega
theorem down (h : Est u v n) {q r : Nat} (hq : q * top v n + r = head u n) (hle : mval u / mval v ≤ q) (ht : 1000000000 ≤ q ∨ r * 1000000000 + u.getD (n - 2) 0 < q * v.getD (n - 2) 0) :
  1 ≤ q ∧ mval u / mval v ≤ q - 1 ∧ (q - 1) * top v n + (r + top v n) = head u n := by
 have hlt : mval u / mval v < q := by
  rcases ht with h1 | h1
  ·have := h.quot_lt; omega
  ·exact est_test h.v_pos (split3 h.two h.lu) (split2 h.two h.lv) h.low.1 hq h1
 clear ht
 generalize mval u / mval v = Q at *
 obtain ⟨p, rfl⟩ : ∃ p, q = p + 1 := ⟨q - 1, by omega⟩
 rw [Nat.add_mul, Nat.one_mul] at hq
 refine ⟨by omega, by omega, ?_⟩
 rw [Nat.add_sub_cancel]; omega
theorem done (h : Est u v n) {q r : Nat} (hq : q * top v n + r = head u n) (h1 : q < 1000000000) (h2 : q * v.getD (n - 2) 0 ≤ r * 1000000000 + u.getD (n - 2) 0) : q ≤ mval u / mval v + 1 :=
 est_done h.v_pos (split3 h.two h.lu) (split2 h.two h.lv) h.low.2 h.top_pos (by omega) hq h2
theorem broke (h : Est u v n) {q r : Nat} (hq : q * top v n + r = head u n) (hr : 1000000000 ≤ r) : q < 1000000000 ∧ q ≤ mval u / mval v + 1 := by
 have h1 := h.head_lt
 have hlt : q < 1000000000 := by
  rcases Nat.lt_or_ge q 1000000000 with h2 | h2
  ·exact h2
  ·have : 1000000000 * top v n ≤ q * top v n := Nat.mul_le_mul_right _ h2
   rw [Nat.add_mul, Nat.mul_comm (top v n)] at h1
   omega
 refine ⟨hlt, h.done hq hlt ?_⟩
 have h3 : q * v.getD (n - 2) 0 ≤ q * 1000000000 := Nat.mul_le_mul_left _ (Nat.le_of_lt (h.dv _))
 have h4 : q * 1000000000 ≤ r * 1000000000 := Nat.mul_le_mul_right _ (Nat.le_trans (Nat.le_of_lt hlt) hr)
 exact Nat.le_trans h3 (Nat.le_trans h4 (Nat.le_add_right _ _))
end Est
end Go.Proofs.YtfminfgabiipjaaGreatDoor
end
section
namespace Go.Proofs.YtfminfgabiipjaaGreatDoor
theorem scale_half {t s : Nat} (ht : 0 < t) (ht2 : t < 1000000000) (hs : 1000000000 / (t + 1) = s) : 0 < s ∧ s ≤ 500000000 ∧ (t + 1) * s ≤ 1000000000 ∧ 1000000000 ≤ 2 * (t * s) + 1 := by
 have h1 : (t + 1) * s ≤ 1000000000 := by rw [← hs]; exact Nat.mul_div_le _ _
 have h0 : 0 < s := by rw [← hs]; exact Nat.div_pos (by omega) (by omega)
 have h2 : 1000000000 < (t + 1) * (s + 1) := by
  rw [← hs, Nat.mul_comm]
  exact Nat.lt_mul_of_div_lt (Nat.lt_succ_self _) (by omega)
 have h3 : s ≤ 500000000 := by
  have : 2 * s ≤ (t + 1) * s := Nat.mul_le_mul_right _ (by omega)
  omega
 refine ⟨h0, h3, h1, ?_⟩
 by_cases hb : 1000000000 ≤ 2 * t + 1
 ·have : t * 1 ≤ t * s := Nat.mul_le_mul_left _ h0
  omega
 ·obtain ⟨d, hd⟩ : ∃ d, 1000000000 = 2 * t + 1 + d := ⟨1000000000 - (2 * t + 1), by omega⟩
  obtain ⟨p, rfl⟩ : ∃ p, t = p + 1 := ⟨t - 1, by omega⟩
  have h4 : 1000000000 + 1 ≤ (p + 1 + 1) * (s + 1) := h2
  have h5 : (p + 1) * (1000000000 + 1) ≤ (p + 1) * ((p + 1 + 1) * (s + 1)) := Nat.mul_le_mul_left _ h4
  refine Nat.le_of_mul_le_mul_left (c := p + 1 + 1) ?_ (by omega)
  have e1 : (p + 1) * ((p + 1 + 1) * (s + 1)) = (p + 1 + 1) * ((p + 1) * s) + (p + 1 + 1) * (p + 1) := by
   rw [Nat.mul_left_comm, Nat.mul_add (p + 1), Nat.mul_one, Nat.mul_add]
  have e2 : (p + 1 + 1) * (2 * ((p + 1) * s) + 1) = 2 * ((p + 1 + 1) * ((p + 1) * s)) + (p + 1 + 1) := by
   rw [Nat.mul_add, Nat.mul_one, Nat.mul_left_comm]
  rw [e2]
  rw [e1] at h5
  have e3 : (p + 1 + 1) * (p + 1) = p * p + 3 * p + 2 := by
   simp only [Nat.add_mul, Nat.mul_add, Nat.mul_one, Nat.one_mul]; omega
  have e4 : p * d + p * (2 * p + 3) = p * 1000000000 := by rw [← Nat.mul_add]; congr 1; omega
  have e5 : p * (2 * p + 3) = 2 * (p * p) + 3 * p := by rw [Nat.mul_add, Nat.mul_left_comm, Nat.mul_comm p 3]
  have e6 : (p + 1) * (1000000000 + 1) = p * (1000000000 + 1) + (1000000000 + 1) := by rw [Nat.add_mul p 1, Nat.one_mul]
  have e7 : p * (1000000000 + 1) = p * 1000000000 + p := by rw [Nat.mul_add, Nat.mul_one]
  rw [e6, e7, e3] at h5
  rw [e5] at e4
  generalize (p + 1 + 1) * ((p + 1) * s) = Z at *
  generalize p * p = pp at *
  clear e3 e5 e6 e7 h4 h2 h1 hs
  omega
theorem scaled_divisor {O V : List Nat} {n s : Nat} (hO : Dig O) (hl : O.length = n) (hn : 2 ≤ n) (nO : Nrm O) (hs : 1000000000 / (O.getD (n - 1) 0 + 1) = s) (hV : Dig V) (nV : Nrm V) (hv : mval V = mval O * s) : V.length = n ∧ 1000000000 ≤ 2 * V.getD (n - 1) 0 + 1 := by
 have ht : O.getD (n - 1) 0 ≠ 0 := by rw [← hl]; exact nO.resolve_left (by omega)
 obtain ⟨s0, s1, s2, s3⟩ := scale_half (Nat.pos_of_ne_zero ht) (hO (n - 1)) hs
 have e := mval_take_succ O (n - 1)
 rw [show n - 1 + 1 = n by omega, ← hl, List.take_length, hl] at e
 have hlow := (hO.take (n - 1)).lt
 rw [List.length_take, Nat.min_eq_left (by omega)] at hlow
 generalize O.getD (n - 1) 0 = t at *
 have hP : 1000000000 ^ n = 1000000000 ^ (n - 1) * 1000000000 := by rw [← Nat.pow_succ]; congr 1; omega
 have hup : mval V < 1000000000 ^ n := by
  rw [hv, e, hP]
  have h1 : (mval (O.take (n - 1)) + 1000000000 ^ (n - 1) * t) * s < 1000000000 ^ (n - 1) * (t + 1) * s := by
   apply Nat.mul_lt_mul_of_pos_right ?_ s0
   rw [Nat.mul_add]; omega
  have h2 : 1000000000 ^ (n - 1) * (t + 1) * s ≤ 1000000000 ^ (n - 1) * 1000000000 := by
   rw [Nat.mul_assoc]; exact Nat.mul_le_mul_left _ s2
  omega
 have hdown : 1000000000 ^ (n - 1) * (t * s) ≤ mval V := by
  rw [hv, e, Nat.add_mul, Nat.mul_assoc]; omega
 have hlen1 := nV.len hup
 have hlen2 : n ≤ V.length := by
  rcases Nat.lt_or_ge V.length n with h | h
  ·exfalso
   have h1 := hV.lt
   have h2 : 1000000000 ^ V.length ≤ 1000000000 ^ (n - 1) := Nat.pow_le_pow_right (by decide) (by omega)
   have h3 : 1000000000 ^ (n - 1) * 1 ≤ 1000000000 ^ (n - 1) * (t * s) := Nat.mul_le_mul_left _ (Nat.mul_pos (Nat.pos_of_ne_zero ht) s0)
   omega
  ·exact h
 have hVl : V.length = n := by omega
 refine ⟨hVl, ?_⟩
 have eV := mval_take_succ V (n - 1)
 rw [show n - 1 + 1 = n by omega, ← hVl, List.take_length, hVl] at eV
 have hlowV := (hV.take (n - 1)).lt
 rw [List.length_take, Nat.min_eq_left (by omega)] at hlowV
 have : t * s ≤ V.getD (n - 1) 0 := by
  have h1 : 1000000000 ^ (n - 1) * (t * s) < 1000000000 ^ (n - 1) * (V.getD (n - 1) 0 + 1) := by
   rw [Nat.mul_add, Nat.mul_one]; omega
  have := Nat.lt_of_mul_lt_mul_left h1
  omega
 omega
theorem div_end {x y s r Q : Nat} (hs : 0 < s) (h : Q * (y * s) + r = x * s) (hr : r < y * s) : Q = x / y ∧ r / s = x % y := by
 have hy : 0 < y := by
  rcases Nat.eq_zero_or_pos y with h0 | h0
  ·subst h0; omega
  ·exact h0
 have hdvd : s ∣ r := by
  have h1 : s ∣ Q * (y * s) := ⟨Q * y, by rw [← Nat.mul_assoc, Nat.mul_comm]⟩
  exact (Nat.dvd_add_right h1).1 (by rw [h]; exact ⟨x, Nat.mul_comm _ _⟩)
 obtain ⟨z, rfl⟩ := hdvd
 rw [Nat.mul_div_cancel_left _ hs]
 have hz : z < y := by
  apply Nat.lt_of_mul_lt_mul_left (a := s)
  rw [Nat.mul_comm s y]; exact hr
 have e : Q * y + z = x := by
  apply Nat.eq_of_mul_eq_mul_right hs
  rw [← h, Nat.add_mul, Nat.mul_assoc, Nat.mul_comm s z]
 rw [← e]
 constructor
 ·rw [Nat.mul_comm Q y, Nat.mul_add_div hy, Nat.div_eq_of_lt hz]; rfl
 ·rw [Nat.mul_comm Q y, Nat.mul_add_mod, Nat.mod_eq_of_lt hz]
theorem div_start {M O V : List Nat} {lm n s : Nat} (hM : Dig M) (hlm : M.length = lm) (hl : O.length = n) (hn : 0 < n) (nO : Nrm O) (hs : 0 < s) (hle : n ≤ lm) (hv : mval V = mval O * s) : mval M * s < 1000000000 ^ (lm + 1 - n) * mval V := by
 have h1 := nO.ge (by omega)
 rw [hl] at h1
 have h2 := hM.lt
 rw [hlm] at h2
 have e : 1000000000 ^ lm = 1000000000 ^ (lm + 1 - n) * 1000000000 ^ (n - 1) := by rw [← Nat.pow_add]; congr 1; omega
 rw [hv, ← Nat.mul_assoc]
 apply Nat.mul_lt_mul_of_pos_right ?_ hs
 have : 1000000000 ^ (lm + 1 - n) * 1000000000 ^ (n - 1) ≤ 1000000000 ^ (lm + 1 - n) * mval O := Nat.mul_le_mul_left _ h1
 omega
end Go.Proofs.YtfminfgabiipjaaGreatDoor
end
section
namespace Go.Proofs.YtfminfgabiipjaaGreatDoor
def sumN : Nat → (Nat → Int) → Int
 | 0, _ => 0
 | n+1, f => sumN n f + f n
theorem sumN_congr {n : Nat} {f g : Nat → Int} (h : ∀ i, i < n → f i = g i) : sumN n f = sumN n g := by
 induction n with
 | zero => rfl
 | succ n ih => simp only [sumN]; rw [ih fun i hi => h i (by omega), h n (by omega)]
theorem sumN_add (n : Nat) (f g : Nat → Int) : sumN n (fun i => f i + g i) = sumN n f + sumN n g := by
 induction n with
 | zero => rfl
 | succ n ih => simp only [sumN, ih]; omega
theorem sumN_mul (n : Nat) (c : Int) (f : Nat → Int) : sumN n (fun i => c * f i) = c * sumN n f := by
 induction n with
 | zero => simp [sumN]
 | succ n ih => simp only [sumN, ih, Int.mul_add]
theorem sumN_zero (n : Nat) (f : Nat → Int) (h : ∀ i, i < n → f i = 0) : sumN n f = 0 := by
 induction n with
 | zero => rfl
 | succ n ih => simp only [sumN]; rw [ih fun i hi => h i (by omega), h n (by omega)]; rfl
theorem sumN_neg (n : Nat) (f : Nat → Int) : sumN n (fun i => - f i) = - sumN n f := by
 induction n with
 | zero => rfl
 | succ n ih => simp only [sumN, ih]; omega
theorem sumN_comm (n m : Nat) (f : Nat → Nat → Int) : sumN n (fun i => sumN m (fun j => f i j)) = sumN m (fun j => sumN n (fun i => f i j)) := by
 induction n with
 | zero =>
  simp only [sumN]
  exact (sumN_zero m _ fun _ _ => rfl).symm
 | succ n ih => simp only [sumN, ih]; rw [← sumN_add]
theorem sumN_anti (n : Nat) (f : Nat → Nat → Int) (h : ∀ i j, i < n → j < n → f i j = - f j i) : sumN n (fun i => sumN n (fun j => f i j)) = 0 := by
 have h1 : sumN n (fun i => sumN n (fun j => f i j)) = sumN n (fun i => sumN n (fun j => - f j i)) := sumN_congr fun i hi => sumN_congr fun j hj => h i j hi hj
 have h2 : sumN n (fun i => sumN n (fun j => - f j i)) = - sumN n (fun i => sumN n (fun j => f j i)) := by
  rw [← sumN_neg]; exact sumN_congr fun i _ => sumN_neg n _
 have h3 := sumN_comm n n f
 omega
def skip (k c : Nat) : Nat := if c < k then c else c + 1
theorem skip_lt {k c n : Nat} (hc : c < n) : skip k c < n + 1 := by unfold skip; split <;> omega
theorem skip_ne (k c : Nat) : skip k c ≠ k := by unfold skip; split <;> omega
theorem sumN_skip (n k : Nat) (hk : k < n + 1) (f : Nat → Int) : sumN n (fun c => f (skip k c)) + f k = sumN (n + 1) f := by
 induction n with
 | zero =>
  obtain rfl : k = 0 := by omega
  simp [sumN]
 | succ n ih =>
  by_cases hkn : k = n + 1
  ·subst hkn
   simp only [sumN]
   have h1 : sumN n (fun c => f (skip (n + 1) c)) = sumN n f := sumN_congr fun i hi => by unfold skip; rw [if_pos (by omega)]
   have h2 : f (skip (n + 1) n) = f n := by unfold skip; rw [if_pos (by omega)]
   rw [h1, h2]
  ·have := ih (by omega)
   simp only [sumN] at this ⊢
   have h2 : f (skip k n) = f (n + 1) := by unfold skip; rw [if_neg (by omega)]
   rw [h2]; omega
def sg (j : Nat) : Int := if j % 2 = 0 then 1 else -1
def det : Nat → (Nat → Nat → Int) → Int
 | 0, _ => 1
 | n+1, M => sumN (n + 1) fun j => sg j * M 0 j * det n fun r c => M (r + 1) (skip j c)
theorem det_congr : ∀ (n : Nat) (M N : Nat → Nat → Int), (∀ r c, r < n → c < n → M r c = N r c) → det n M = det n N
 | 0, _, _, _ => rfl
 | n+1, M, N, h => by
  simp only [det]
  refine sumN_congr fun j hj => ?_
  rw [h 0 j (by omega) hj, det_congr n _ _ fun r c hr hc => h (r + 1) (skip j c) (by omega) (skip_lt hc)]
theorem det_row_add : ∀ (n : Nat) (M N K : Nat → Nat → Int) (k : Nat), k < n → (∀ c, c < n → K k c = M k c + N k c) → (∀ r c, r < n → c < n → r ≠ k → K r c = M r c ∧ K r c = N r c) → det n K = det n M + det n N
 | 0, _, _, _, _, h, _, _ => absurd h (by omega)
 | n+1, M, N, K, 0, _, hk, ho => by
  simp only [det]
  rw [← sumN_add]
  refine sumN_congr fun j hj => ?_
  have e1 : det n (fun r c => K (r + 1) (skip j c)) = det n (fun r c => M (r + 1) (skip j c)) := det_congr n _ _ fun r c hr hc => (ho (r + 1) (skip j c) (by omega) (skip_lt hc) (by omega)).1
  have e2 : det n (fun r c => K (r + 1) (skip j c)) = det n (fun r c => N (r + 1) (skip j c)) := det_congr n _ _ fun r c hr hc => (ho (r + 1) (skip j c) (by omega) (skip_lt hc) (by omega)).2
  rw [← e2, ← e1, hk j hj, Int.mul_add, Int.add_mul]
 | n+1, M, N, K, k+1, h, hk, ho => by
  simp only [det]
  rw [← sumN_add]
  refine sumN_congr fun j hj => ?_
  have e := det_row_add n (fun r c => M (r + 1) (skip j c)) (fun r c => N (r + 1) (skip j c)) (fun r c => K (r + 1) (skip j c)) k (by omega) (fun c hc => hk (skip j c) (skip_lt hc)) (fun r c hr hc hrk => ho (r + 1) (skip j c) (by omega) (skip_lt hc) (by omega))
  have h0 := ho 0 j (by omega) hj (by omega)
  rw [e, Int.mul_add]
  rw [← h0.1]
  have : K 0 j = N 0 j := h0.2
  rw [this]
theorem det_row_mul : ∀ (n : Nat) (M K : Nat → Nat → Int) (k : Nat) (a : Int), k < n → (∀ c, c < n → K k c = a * M k c) → (∀ r c, r < n → c < n → r ≠ k → K r c = M r c) → det n K = a * det n M
 | 0, _, _, _, _, h, _, _ => absurd h (by omega)
 | n+1, M, K, 0, a, _, hk, ho => by
  simp only [det]
  rw [← sumN_mul]
  refine sumN_congr fun j hj => ?_
  rw [det_congr n _ _ fun r c hr hc => ho (r + 1) (skip j c) (by omega) (skip_lt hc) (by omega), hk j hj]
  rw [← Int.mul_assoc, ← Int.mul_assoc, Int.mul_comm (sg j) a, Int.mul_assoc a (sg j)]
 | n+1, M, K, k+1, a, h, hk, ho => by
  simp only [det]
  rw [← sumN_mul]
  refine sumN_congr fun j hj => ?_
  have e := det_row_mul n (fun r c => M (r + 1) (skip j c)) (fun r c => K (r + 1) (skip j c)) k a (by omega) (fun c hc => hk (skip j c) (skip_lt hc)) (fun r c hr hc hrk => ho (r + 1) (skip j c) (by omega) (skip_lt hc) (by omega))
  rw [e, ho 0 j (by omega) hj (by omega), ← Int.mul_assoc, ← Int.mul_assoc, Int.mul_comm (sg j * M 0 j) a, Int.mul_assoc]
def cof (j k : Nat) : Nat := if k < j then k else k - 1
theorem cof_skip (j c : Nat) : cof j (skip j c) = c := by unfold cof skip; (repeat' split) <;> omega
theorem skip_twice (j k x : Nat) (h : j ≠ k) : skip j (skip (cof j k) x) = skip k (skip (cof k j) x) := by
 unfold cof skip
 by_cases h1 : k < j
 ·have h2 : ¬ j < k := by omega
  simp only [h1, h2, if_true, if_false]
  (repeat' split) <;> omega
 ·have h2 : j < k := by omega
  simp only [h1, h2, if_true, if_false]
  (repeat' split) <;> omega
theorem sg_cof (j k : Nat) (h : j ≠ k) : sg j * sg (cof j k) = - (sg k * sg (cof k j)) := by
 unfold sg cof
 by_cases h1 : k < j
 ·have h2 : ¬ j < k := by omega
  simp only [h1, h2, if_true, if_false]
  (repeat' split) <;> first | omega | (exfalso; omega)
 ·have h2 : j < k := by omega
  simp only [h1, h2, if_true, if_false]
  (repeat' split) <;> first | omega | (exfalso; omega)
def two (n : Nat) (M : Nat → Nat → Int) (j k : Nat) : Int := if j = k then 0 else sg j * sg (cof j k) * (M 0 j * M 1 k) * det n fun r x => M (r + 2) (skip j (skip (cof j k) x))
theorem det_two (n : Nat) (M : Nat → Nat → Int) : det (n + 2) M = sumN (n + 2) fun j => sumN (n + 2) fun k => two n M j k := by
 show sumN (n + 2) (fun j => sg j * M 0 j * det (n + 1) fun r c => M (r + 1) (skip j c)) = _
 refine sumN_congr fun j hj => ?_
 rw [← sumN_skip (n + 1) j hj]
 have h0 : two n M j j = 0 := by unfold two; rw [if_pos rfl]
 rw [h0, Int.add_zero]
 show sg j * M 0 j * sumN (n + 1) (fun c => sg c * M 1 (skip j c) * det n fun r x => M (r + 2) (skip j (skip c x))) = _
 rw [← sumN_mul]
 refine sumN_congr fun c hc => ?_
 unfold two
 rw [if_neg (Ne.symm (skip_ne j c)), cof_skip]
 simp only [Int.mul_assoc, Int.mul_comm, Int.mul_left_comm]
theorem det_same01 (n : Nat) (M : Nat → Nat → Int) (h : ∀ c, c < n + 2 → M 0 c = M 1 c) : det (n + 2) M = 0 := by
 rw [det_two]
 refine sumN_anti (n + 2) _ fun j k hj hk => ?_
 unfold two
 by_cases hjk : j = k
 ·rw [if_pos hjk, if_pos hjk.symm]; rfl
 ·rw [if_neg hjk, if_neg (Ne.symm hjk), sg_cof j k hjk]
  have e : (fun r x => M (r + 2) (skip j (skip (cof j k) x))) = fun r x => M (r + 2) (skip k (skip (cof k j) x)) := by
   funext r x; rw [skip_twice j k x hjk]
  rw [e, h j hj, ← h k hk, Int.mul_comm (M 1 j) (M 0 k), Int.neg_mul, Int.neg_mul]
theorem det_same_next : ∀ (n : Nat) (M : Nat → Nat → Int) (k : Nat), k + 1 < n → (∀ c, c < n → M k c = M (k + 1) c) → det n M = 0
 | 0, _, _, h, _ => absurd h (by omega)
 | 1, _, _, h, _ => absurd h (by omega)
 | n+2, M, 0, _, h => det_same01 n M h
 | n+2, M, k+1, hk, h => by
  show sumN (n + 2) (fun j => sg j * M 0 j * det (n + 1) fun r c => M (r + 1) (skip j c)) = 0
  refine sumN_zero _ _ fun j hj => ?_
  rw [det_same_next (n + 1) (fun r c => M (r + 1) (skip j c)) k (by omega) fun c hc => h (skip j c) (skip_lt hc), Int.mul_zero]
def R2 (M : Nat → Nat → Int) (k : Nat) (x y : Nat → Int) : Nat → Nat → Int := fun r c => if r = k then x c else if r = k + 1 then y c else M r c
theorem R2_left (n : Nat) (M : Nat → Nat → Int) (k : Nat) (hk : k + 1 < n) (x x' y : Nat → Int) : det n (R2 M k (fun c => x c + x' c) y) = det n (R2 M k x y) + det n (R2 M k x' y) :=
 det_row_add n _ _ _ k (by omega) (fun c _ => by simp [R2]) fun r c _ _ hr => by simp [R2, hr]
theorem R2_right (n : Nat) (M : Nat → Nat → Int) (k : Nat) (hk : k + 1 < n) (x y y' : Nat → Int) : det n (R2 M k x (fun c => y c + y' c)) = det n (R2 M k x y) + det n (R2 M k x y') :=
 det_row_add n _ _ _ (k + 1) (by omega) (fun c _ => by simp [R2]) fun r c _ _ hr => by simp [R2, hr]
theorem R2_same (n : Nat) (M : Nat → Nat → Int) (k : Nat) (hk : k + 1 < n) (x : Nat → Int) : det n (R2 M k x x) = 0 :=
 det_same_next n _ k hk fun c _ => by simp [R2]
theorem R2_swap (n : Nat) (M : Nat → Nat → Int) (k : Nat) (hk : k + 1 < n) (x y : Nat → Int) : det n (R2 M k x y) = - det n (R2 M k y x) := by
 have h := R2_same n M k hk fun c => x c + y c
 rw [R2_left n M k hk, R2_right n M k hk, R2_right n M k hk, R2_same n M k hk, R2_same n M k hk] at h
 omega
theorem R2_self (M : Nat → Nat → Int) (k : Nat) : R2 M k (M k) (M (k + 1)) = M := by
 funext r c
 unfold R2
 split
 ·rename_i h; rw [h]
 ·split
  ·rename_i h; rw [h]
  ·rfl
theorem det_same (n : Nat) : ∀ (d : Nat) (M : Nat → Nat → Int) (i : Nat), i + d + 1 < n → (∀ c, c < n → M i c = M (i + d + 1) c) → det n M = 0
 | 0, M, i, hi, h => det_same_next n M i hi h
 | d+1, M, i, hi, h => by
  have hs := R2_swap n M (i + d + 1) (by omega) (M (i + d + 1)) (M (i + d + 1 + 1))
  rw [R2_self] at hs
  rw [hs, det_same n d (R2 M (i + d + 1) (M (i + d + 1 + 1)) (M (i + d + 1))) i (by omega) (fun c hc => by
   have : ¬ i = i + d + 1 := by omega
   have h2 : ¬ i = i + d + 1 + 1 := by omega
   simp only [R2, this, h2, if_false, if_true]
   exact h c hc)]
  rfl
theorem det_add_row (n : Nat) (M K : Nat → Nat → Int) (i s : Nat) (a : Int) (hi : i < n) (hs : s < n) (his : i ≠ s) (hk : ∀ c, c < n → K i c = M i c + a * M s c) (ho : ∀ r c, r < n → c < n → r ≠ i → K r c = M r c) : det n K = det n M := by
 have h1 := det_row_add n M (fun r c => if r = i then a * M s c else M r c) K i hi (fun c hc => by simp [hk c hc]) fun r c hr hc hri => by
  rw [ho r c hr hc hri]; simp [hri]
 have h2 := det_row_mul n (fun r c => if r = i then M s c else M r c) (fun r c => if r = i then a * M s c else M r c) i a hi (fun c _ => by simp) fun r c _ _ hri => by simp [hri]
 have h3 : det n (fun r c => if r = i then M s c else M r c) = 0 := by
  rcases Nat.lt_or_gt_of_ne his with h | h
  ·obtain ⟨d, rfl⟩ : ∃ d, s = i + d + 1 := ⟨s - i - 1, by omega⟩
   refine det_same n d _ i (by omega) fun c _ => ?_
   have : ¬ i + d + 1 = i := by omega
   simp [this]
  ·obtain ⟨d, rfl⟩ : ∃ d, i = s + d + 1 := ⟨i - s - 1, by omega⟩
   refine det_same n d _ s (by omega) fun c _ => ?_
   have : ¬ s = s + d + 1 := by omega
   simp [this]
 rw [h1, h2, h3, Int.mul_zero, Int.add_zero]
theorem sumN_first (n : Nat) (f : Nat → Int) : sumN (n + 1) f = f 0 + sumN n fun i => f (i + 1) := by
 induction n with
 | zero => simp [sumN]
 | succ n ih =>
  have : sumN (n + 1 + 1) f = sumN (n + 1) f + f (n + 1) := rfl
  rw [this, ih]
  simp only [sumN]
  omega
theorem sg_succ (j : Nat) : sg (j + 1) = - sg j := by
 unfold sg
 (repeat' split) <;> first | omega | (exfalso; omega)
theorem skip_zero (r : Nat) : skip 0 r = r + 1 := by unfold skip; rw [if_neg (by omega)]
theorem skip_succ_zero (j : Nat) : skip (j + 1) 0 = 0 := by unfold skip; rw [if_pos (by omega)]
theorem skip_succ_succ (j c : Nat) : skip (j + 1) (c + 1) = skip j c + 1 := by unfold skip; (repeat' split) <;> omega
theorem det_col : ∀ (n : Nat) (M : Nat → Nat → Int), det (n + 1) M = sumN (n + 1) fun i => sg i * M i 0 * det n fun r c => M (skip i r) (c + 1)
 | 0, M => by
  show sumN 1 _ = sumN 1 _
  exact sumN_congr fun i hi => by
   obtain rfl : i = 0 := by omega
   rfl
 | n+1, M => by
  show sumN (n + 1 + 1) (fun j => sg j * M 0 j * det (n + 1) fun r c => M (r + 1) (skip j c)) = _
  rw [sumN_first, sumN_first (n + 1)]
  have hadd : ∀ a b c d : Int, a = c → b = d → a + b = c + d := fun a b c d h k => by rw [h, k]
  refine hadd _ _ _ _ ?_ ?_
  ·have e0 : (fun r c => M (r + 1) (skip 0 c)) = fun r c => M (skip 0 r) (c + 1) := by
    funext r c
    rw [skip_zero, skip_zero]
   rw [e0]
  ·have e1 : ∀ j, sg (j + 1) * M 0 (j + 1) * det (n + 1) (fun r c => M (r + 1) (skip (j + 1) c)) = sumN (n + 1) fun i => - (sg j * sg i * (M 0 (j + 1) * M (i + 1) 0) * det n fun r c => M (skip i r + 1) (skip j c + 1)) := by
    intro j
    rw [det_col n, ← sumN_mul]
    refine sumN_congr fun i _ => ?_
    simp only [skip_succ_zero, skip_succ_succ, sg_succ]
    simp only [Int.neg_mul, Int.mul_neg, Int.mul_assoc, Int.mul_left_comm]
   have e2 : ∀ i, sg (i + 1) * M (i + 1) 0 * det (n + 1) (fun r c => M (skip (i + 1) r) (c + 1)) = sumN (n + 1) fun j => - (sg j * sg i * (M 0 (j + 1) * M (i + 1) 0) * det n fun r c => M (skip i r + 1) (skip j c + 1)) := by
    intro i
    show _ * sumN (n + 1) (fun j => sg j * M (skip (i + 1) 0) (j + 1) * det n fun r c => M (skip (i + 1) (r + 1)) (skip j c + 1)) = _
    rw [← sumN_mul]
    refine sumN_congr fun j _ => ?_
    simp only [skip_succ_zero, skip_succ_succ, sg_succ]
    simp only [Int.neg_mul, Int.mul_neg, Int.mul_assoc, Int.mul_left_comm, Int.mul_comm]
   rw [sumN_congr fun j _ => e1 j, sumN_congr fun i _ => e2 i, sumN_comm]
theorem det_turn : ∀ (n : Nat) (M : Nat → Nat → Int), det n (fun r c => M c r) = det n M
 | 0, _ => rfl
 | n+1, M => by
  rw [det_col n M]
  show sumN (n + 1) (fun j => sg j * M j 0 * det n fun r c => M (skip j c) (r + 1)) = _
  exact sumN_congr fun j _ => by rw [det_turn n fun r c => M (skip j r) (c + 1)]
theorem det_comb (n : Nat) (i : Nat) (hi : i < 2) : ∀ (m : Nat) (M K : Nat → Nat → Int) (L : Nat → Int), m + 2 ≤ n → (∀ c, c < n → K i c = M i c + sumN m fun s => L s * M (s + 2) c) → (∀ r c, r < n → c < n → r ≠ i → K r c = M r c) → det n K = det n M
 | 0, M, K, L, hm, hk, ho => det_congr n K M fun r c hr hc => by
  by_cases h : r = i
  ·subst h; rw [hk c hc]; simp [sumN]
  ·exact ho r c hr hc h
 | m+1, M, K, L, hm, hk, ho => by
  have h1 := det_comb n i hi m M (fun r c => if r = i then M i c + sumN m (fun s => L s * M (s + 2) c) else M r c) L (by omega) (fun c _ => by simp) fun r c _ _ hr => by simp [hr]
  rw [← h1]
  refine det_add_row n _ K i (m + 2) (L m) (by omega) (by omega) (by omega) (fun c hc => ?_) fun r c hr hc hri => by rw [ho r c hr hc hri]; simp [hri]
  have : ¬ m + 2 = i := by omega
  rw [hk c hc]
  simp only [sumN, this, if_true, if_false]
  omega
def bord (k : Nat) (M : Nat → Nat → Int) (a c : Nat) : Int := det (k + 1) fun r x => M (if r = 0 then a else r + 1) (if x = 0 then c else x + 1)
def steps (k : Nat) (M : Nat → Nat → Int) : Int := det k fun r c => M (r + 2) (c + 2)
def lam (k : Nat) (M : Nat → Nat → Int) (a s : Nat) : Int := sg (s + 1) * det k fun r x => M (if skip (s + 1) r = 0 then a else skip (s + 1) r + 1) (x + 2)
theorem bord_comb (k : Nat) (M : Nat → Nat → Int) (a c : Nat) : bord k M a c = steps k M * M a c + sumN k fun s => lam k M a s * M (s + 2) c := by
 unfold bord steps
 rw [det_col, sumN_first]
 have hadd : ∀ a b c d : Int, a = c → b = d → a + b = c + d := fun a b c d h k => by rw [h, k]
 refine hadd _ _ _ _ ?_ (sumN_congr fun s hs => ?_)
 ·have e : (fun r x => M (if skip 0 r = 0 then a else skip 0 r + 1) (if x + 1 = 0 then c else x + 1 + 1)) = fun r x => M (r + 2) (x + 2) := by
   funext r x
   rw [skip_zero]; simp
  rw [e]
  simp [sg, Int.mul_comm]
 ·have h1 : ¬ s + 1 = 0 := by omega
  have e : (fun r x => M (if skip (s + 1) r = 0 then a else skip (s + 1) r + 1) (if x + 1 = 0 then c else x + 1 + 1)) = fun r x => M (if skip (s + 1) r = 0 then a else skip (s + 1) r + 1) (x + 2) := by
   funext r x; simp
  rw [e]
  unfold lam
  simp only [h1, if_true, if_false, Int.mul_assoc, Int.mul_comm]
theorem bord_zero (k : Nat) (M : Nat → Nat → Int) (a c : Nat) (hc : c < k) : bord k M a (c + 2) = 0 := by
 unfold bord
 rw [← det_turn]
 refine det_same (k + 1) c _ 0 (by omega) fun r _ => ?_
 have : ¬ 0 + c + 1 = 0 := by omega
 simp only [this, if_true, if_false]
 rw [show 0 + c + 1 + 1 = c + 2 by omega]
theorem sumN_head (n : Nat) (f : Nat → Int) (h : ∀ i, i < n → f (i + 1) = 0) : sumN (n + 1) f = f 0 := by
 rw [sumN_first, sumN_zero n _ h, Int.add_zero]
theorem sg0 : sg 0 = 1 := rfl
theorem sg1 : sg 1 = -1 := rfl
def cleared (k : Nat) (M : Nat → Nat → Int) : Nat → Nat → Int := fun r c => if r = 0 then bord k M 0 c else if r = 1 then bord k M 1 c else M r c
theorem det_cleared (k : Nat) (M : Nat → Nat → Int) : det (k + 2) (cleared k M) = steps k M * (steps k M * det (k + 2) M) := by
 have h1 : det (k + 2) (fun r c => if r = 0 then steps k M * M 0 c else M r c) = steps k M * det (k + 2) M :=
  det_row_mul (k + 2) M _ 0 (steps k M) (by omega) (fun c _ => by simp) fun r c _ _ hr => by simp [hr]
 have h2 : det (k + 2) (fun r c => if r = 0 then bord k M 0 c else M r c) = det (k + 2) (fun r c => if r = 0 then steps k M * M 0 c else M r c) :=
  det_comb (k + 2) 0 (by omega) k _ _ (lam k M 0) qN (fun c _ => by
   show bord k M 0 c = _
   rw [bord_comb]
   simp) fun r c _ _ hr => by simp [hr]
 have h3 : det (k + 2) (fun r c => if r = 1 then steps k M * M 1 c else if r = 0 then bord k M 0 c else M r c) = steps k M * det (k + 2) (fun r c => if r = 0 then bord k M 0 c else M r c) :=
  det_row_mul (k + 2) _ _ 1 (steps k M) (by omega) (fun c _ => by simp) fun r c _ _ hr => by simp [hr]
 have h4 : det (k + 2) (cleared k M) = det (k + 2) (fun r c => if r = 1 then steps k M * M 1 c else if r = 0 then bord k M 0 c else M r c) :=
  det_comb (k + 2) 1 (by omega) k _ _ (lam k M 1) qN (fun c _ => by
   show bord k M 1 c = _
   rw [bord_comb]
   simp) fun r c _ _ hr => by
    by_cases h0 : r = 0
    ·subst h0; simp [cleared]
    ·simp [cleared, hr, h0]
 rw [h4, h3, h2, h1]
theorem det_cleared2 (k : Nat) (M : Nat → Nat → Int) : det (k + 2) (cleared k M) = (bord k M 0 0 * bord k M 1 1 - bord k M 0 1 * bord k M 1 0) * steps k M := by
 have z0 : ∀ c, c < k → cleared k M 0 (c + 2) = 0 := fun c hc => bord_zero k M 0 c hc
 have z1 : ∀ c, c < k → cleared k M 1 (c + 2) = 0 := fun c hc => bord_zero k M 1 c hc
 have a : det (k + 1) (fun r c => cleared k M (r + 1) (skip 0 c)) = bord k M 1 1 * steps k M := by
  show sumN (k + 1) (fun j => sg j * cleared k M 1 (skip 0 j) * det k fun r c => cleared k M (r + 2) (skip 0 (skip j c))) = _
  rw [sumN_head k _ fun i hi => by
   simp only [skip_zero]
   rw [z1 i hi, Int.mul_zero, Int.zero_mul]]
  have e : (fun r c => cleared k M (r + 2) (skip 0 (skip 0 c))) = fun r c => M (r + 2) (c + 2) := by
   funext r c
   simp [skip_zero, cleared]
  rw [e, sg0, Int.one_mul]
  rfl
 have b : det (k + 1) (fun r c => cleared k M (r + 1) (skip 1 c)) = bord k M 1 0 * steps k M := by
  show sumN (k + 1) (fun j => sg j * cleared k M 1 (skip 1 j) * det k fun r c => cleared k M (r + 2) (skip 1 (skip j c))) = _
  have s1 : ∀ c, skip 1 (c + 1) = c + 2 := fun c => by unfold skip; rw [if_neg (by omega)]
  rw [sumN_head k _ fun i hi => by
   rw [s1, z1 i hi, Int.mul_zero, Int.zero_mul]]
  have e : (fun r c => cleared k M (r + 2) (skip 1 (skip 0 c))) = fun r c => M (r + 2) (c + 2) := by
   funext r c
   rw [skip_zero, s1]
   simp [cleared]
  rw [e, sg0, Int.one_mul]
  rfl
 show sumN (k + 1 + 1) (fun j => sg j * cleared k M 0 j * det (k + 1) fun r c => cleared k M (r + 1) (skip j c)) = _
 rw [sumN_first, sumN_head k _ fun i hi => by rw [z0 i hi, Int.mul_zero, Int.zero_mul]]
 simp only [Nat.zero_add]
 rw [a, b, sg0, sg1, Int.one_mul]
 show bord k M 0 0 * (bord k M 1 1 * steps k M) + -1 * bord k M 0 1 * (bord k M 1 0 * steps k M) = _
 rw [Int.sub_mul, Int.neg_mul, Int.one_mul, Int.neg_mul, Int.mul_assoc, Int.mul_assoc]
 omega
theorem sylvester (k : Nat) (M : Nat → Nat → Int) (hd : steps k M ≠ 0) : bord k M 0 0 * bord k M 1 1 - bord k M 0 1 * bord k M 1 0 = steps k M * det (k + 2) M := by
 have h := (det_cleared2 k M).symm.trans (det_cleared k M)
 rw [Int.mul_comm _ (steps k M)] at h
 exact Int.eq_of_mul_eq_mul_left hd h
end Go.Proofs.YtfminfgabiipjaaGreatDoor
end
section
namespace Go.Proofs.YtfminfgabiipjaaGreatDoor
def sumQ : Nat → (Nat → Rat) → Rat
 | 0, _ => 0
 | n + 1, f => sumQ n f + f n
theorem sumQ_congr : ∀ {n : Nat} {f g : Nat → Rat}, (∀ i, i < n → f i = g i) → sumQ n f = sumQ n g
 | 0, _, _, _ => rfl
 | n + 1, f, g, h => by
  show sumQ n f + f n = sumQ n g + g n
  rw [sumQ_congr fun i hi => h i (by omega), h n (by omega)]
theorem sumQ_zero : ∀ (n : Nat) (f : Nat → Rat), (∀ i, i < n → f i = 0) → sumQ n f = 0
 | 0, _, _ => rfl
 | n + 1, f, h => by
  show sumQ n f + f n = 0
  rw [sumQ_zero n f fun i hi => h i (by omega), h n (by omega)]; grind
theorem sumQ_add : ∀ (n : Nat) (f g : Nat → Rat), sumQ n (fun i => f i + g i) = sumQ n f + sumQ n g
 | 0, _, _ => by simp [sumQ]; try grind
 | n + 1, f, g => by
  show sumQ n (fun i => f i + g i) + (f n + g n) = sumQ n f + f n + (sumQ n g + g n)
  rw [sumQ_add n f g]; grind
theorem sumQ_mul : ∀ (n : Nat) (a : Rat) (f : Nat → Rat), sumQ n (fun i => a * f i) = a * sumQ n f
 | 0, a, _ => by simp [sumQ]
 | n + 1, a, f => by
  show sumQ n (fun i => a * f i) + a * f n = a * (sumQ n f + f n)
  rw [sumQ_mul n a f]; grind
theorem sumQ_comm : ∀ (n m : Nat) (f : Nat → Nat → Rat), sumQ n (fun i => sumQ m fun j => f i j) = sumQ m fun j => sumQ n fun i => f i j
 | 0, m, f => (sumQ_zero m _ fun _ _ => rfl).symm
 | n + 1, m, f => by
  show sumQ n (fun i => sumQ m fun j => f i j) + sumQ m (fun j => f n j) = sumQ m fun j => (sumQ n (fun i => f i j) + f n j)
  rw [sumQ_comm n m f, sumQ_add]
theorem sumQ_one : ∀ (n k : Nat) (f : Nat → Rat), k < n → (∀ i, i < n → i ≠ k → f i = 0) → sumQ n f = f k
 | 0, k, _, h, _ => absurd h (by omega)
 | n + 1, k, f, h, h0 => by
  show sumQ n f + f n = f k
  by_cases e : k = n
  ·subst e
   rw [sumQ_zero k f fun i hi => h0 i (by omega) (by omega)]; grind
  ·rw [sumQ_one n k f (by omega) fun i hi hik => h0 i (by omega) hik, h0 n (by omega) (fun h => e h.symm)]; grind
theorem sumQ_two (n k l : Nat) (f : Nat → Rat) (hk : k < n) (hl : l < n) (hkl : k ≠ l) (h0 : ∀ i, i < n → i ≠ k → i ≠ l → f i = 0) : sumQ n f = f k + f l := by
 have e : sumQ n f = sumQ n (fun i => (if i = k then f i else 0) + (if i = k then 0 else f i)) := sumQ_congr fun i _ => by split <;> grind
 rw [e, sumQ_add, sumQ_one n k _ hk (fun i _ hik => if_neg hik), sumQ_one n l _ hl (fun i hi hil => by
  by_cases h : i = k
  ·rw [if_pos h]
  ·rw [if_neg h]; exact h0 i hi h hil), if_pos rfl, if_neg (fun h => hkl h.symm)]
theorem sumQ_nat_add : ∀ (n m : Nat) (f : Nat → Rat), sumQ (n + m) f = sumQ n f + sumQ m fun i => f (n + i)
 | n, 0, f => by simp [sumQ]; try grind
 | n, m + 1, f => by
  show sumQ (n + m) f + f (n + m) = sumQ n f + (sumQ m (fun i => f (n + i)) + f (n + m))
  rw [sumQ_nat_add n m f]; grind
def Span (R n : Nat) (A : Nat → Nat → Rat) (v : Nat → Rat) : Prop := ∃ c : Nat → Rat, ∀ j, j < n → v j = sumQ R fun i => c i * A i j
theorem Span.row {R n : Nat} {A : Nat → Nat → Rat} {i : Nat} (hi : i < R) : Span R n A (A i) :=
 ⟨fun k => if k = i then 1 else 0, fun j _ => by
  rw [sumQ_one R i _ hi (fun k _ hk => by simp [hk])]; simp⟩
theorem Span.congr {R n : Nat} {A B : Nat → Nat → Rat} {v u : Nat → Rat} (h : Span R n A v) (hA : ∀ i, i < R → ∀ j, j < n → A i j = B i j) (hv : ∀ j, j < n → v j = u j) : Span R n B u := by
 obtain ⟨c, hc⟩ := h
 exact ⟨c, fun j hj => by rw [← hv j hj, hc j hj]; exact sumQ_congr fun i hi => by rw [hA i hi j hj]⟩
theorem Span.zero {R n : Nat} {A : Nat → Nat → Rat} {v : Nat → Rat} (h : ∀ j, j < n → v j = 0) : Span R n A v :=
 ⟨fun _ => 0, fun j hj => by rw [h j hj, sumQ_zero]; intro i _; grind⟩
theorem Span.comb {R n : Nat} {A : Nat → Nat → Rat} {u v : Nat → Rat} (hu : Span R n A u) (hv : Span R n A v) (a b : Rat) : Span R n A (fun j => a * u j + b * v j) := by
 obtain ⟨c, hc⟩ := hu
 obtain ⟨d, hd⟩ := hv
 refine ⟨fun i => a * c i + b * d i, fun j hj => ?_⟩
 show a * u j + b * v j = _
 rw [hc j hj, hd j hj, ← sumQ_mul, ← sumQ_mul, ← sumQ_add]
 exact sumQ_congr fun i _ => by grind
theorem Span.trans {R S n : Nat} {A B : Nat → Nat → Rat} {v : Nat → Rat} (h : Span R n A v) (hA : ∀ i, i < R → Span S n B (A i)) : Span S n B v := by
 obtain ⟨c, hc⟩ := h
 have : ∀ i, ∃ d : Nat → Rat, i < R → ∀ j, j < n → A i j = sumQ S fun k => d k * B k j := fun i => by
  by_cases hi : i < R
  ·obtain ⟨d, hd⟩ := hA i hi
   exact ⟨d, fun _ => hd⟩
  ·exact ⟨fun _ => 0, fun h => absurd h hi⟩
 refine ⟨fun k => sumQ R fun i => c i * (Classical.choose (this i)) k, fun j hj => ?_⟩
 rw [hc j hj]
 have e1 : sumQ S (fun k => sumQ R (fun i => c i * (Classical.choose (this i)) k) * B k j) = sumQ S fun k => sumQ R fun i => c i * ((Classical.choose (this i)) k * B k j) := sumQ_congr fun k _ => by
  rw [show sumQ R (fun i => c i * (Classical.choose (this i)) k) * B k j = B k j * sumQ R (fun i => c i * (Classical.choose (this i)) k) by grind, ← sumQ_mul]
  exact sumQ_congr fun i _ => by grind
 rw [e1, ← sumQ_comm]
 refine sumQ_congr fun i hi => ?_
 rw [sumQ_mul, Classical.choose_spec (this i) hi j hj]
def SpanEq (R S n : Nat) (A B : Nat → Nat → Rat) : Prop := (∀ i, i < R → Span S n B (A i)) ∧ ∀ i, i < S → Span R n A (B i)
theorem SpanEq.refl (R n : Nat) (A : Nat → Nat → Rat) : SpanEq R R n A A := ⟨fun _ hi => Span.row hi, fun _ hi => Span.row hi⟩
theorem SpanEq.symm {R S n : Nat} {A B : Nat → Nat → Rat} (h : SpanEq R S n A B) : SpanEq S R n B A := ⟨h.2, h.1⟩
theorem SpanEq.trans {R S T n : Nat} {A B C : Nat → Nat → Rat} (h : SpanEq R S n A B) (k : SpanEq S T n B C) : SpanEq R T n A C :=
 ⟨fun i hi => (h.1 i hi).trans k.1, fun i hi => (k.2 i hi).trans h.2⟩
def Indep (k n : Nat) (v : Nat → Nat → Rat) : Prop := ∀ c : Nat → Rat, (∀ j, j < n → sumQ k (fun i => c i * v i j) = 0) → ∀ i, i < k → c i = 0
theorem more_unknowns : ∀ (m k : Nat) (C : Nat → Nat → Rat), m < k → ∃ c : Nat → Rat, (∃ i, i < k ∧ c i ≠ 0) ∧ ∀ l, l < m → sumQ k (fun i => c i * C i l) = 0
 | 0, k, C, h => ⟨fun _ => 1, ⟨0, h, by decide⟩, fun l hl => absurd hl (by omega)⟩
 | m + 1, 0, C, h => absurd h (by omega)
 | m + 1, k + 1, C, h => by
  by_cases h0 : ∀ l, l < m + 1 → C k l = 0
  ·refine ⟨fun i => if i = k then 1 else 0, ⟨k, by omega, by simp⟩, fun l hl => ?_⟩
   rw [sumQ_one (k + 1) k _ (by omega) (fun i _ hi => by simp [hi])]
   simp [h0 l hl]
  ·have : ∃ p, p < m + 1 ∧ C k p ≠ 0 := by
    apply Classical.byContradiction
    intro hn
    exact h0 fun l hl => Classical.byContradiction fun hc => hn ⟨l, hl, hc⟩
   obtain ⟨p, hp, hC⟩ := this
   obtain ⟨c, ⟨i, hi, hci⟩, hc⟩ := more_unknowns m k (fun i l => C i (skip p l) - C i p / C k p * C k (skip p l)) (by omega)
   have key : ∀ l, l < m + 1 → l ≠ p → sumQ k (fun i => c i * (C i l - C i p / C k p * C k l)) = 0 := by
    intro l hl hlp
    by_cases hlt : l < p
    ·have := hc l (by omega)
     have e : skip p l = l := by unfold skip; rw [if_pos hlt]
     simpa only [e] using this
    ·have := hc (l - 1) (by omega)
     have e : skip p (l - 1) = l := by unfold skip; rw [if_neg (by omega)]; omega
     simpa only [e] using this
   refine ⟨fun i => if i < k then c i else - sumQ k (fun i => c i * (C i p / C k p)), ⟨i, by omega, by show (if i < k then c i else _) ≠ 0; rw [if_pos hi]; exact hci⟩, fun l hl => ?_⟩
   show sumQ k _ + (if k < k then c k else - sumQ k (fun i => c i * (C i p / C k p))) * C k l = 0
   have e1 : sumQ k (fun i => (if i < k then c i else - sumQ k (fun i => c i * (C i p / C k p))) * C i l) = sumQ k (fun i => c i * C i l) := sumQ_congr fun i hi => by rw [if_pos hi]
   rw [e1, if_neg (Nat.lt_irrefl k)]
   have e2 : sumQ k (fun i => c i * (C i l - C i p / C k p * C k l)) = sumQ k (fun i => c i * C i l) + - sumQ k (fun i => c i * (C i p / C k p)) * C k l := by
    rw [show - sumQ k (fun i => c i * (C i p / C k p)) * C k l = (- C k l) * sumQ k (fun i => c i * (C i p / C k p)) by grind, ← sumQ_mul, ← sumQ_add]
    exact sumQ_congr fun i _ => by grind
   rw [← e2]
   by_cases hlp : l = p
   ·subst hlp
    refine sumQ_zero _ _ fun i _ => ?_
    rw [Rat.div_mul_cancel hC]; grind
   ·exact key l hl hlp
theorem steinitz {m k n : Nat} {u v : Nat → Nat → Rat} (h : ∀ i, i < k → Span m n u (v i)) (hi : Indep k n v) : k ≤ m := by
 apply Classical.byContradiction
 intro hn
 have : ∀ i, ∃ d : Nat → Rat, i < k → ∀ j, j < n → v i j = sumQ m fun l => d l * u l j := fun i => by
  by_cases hik : i < k
  ·obtain ⟨d, hd⟩ := h i hik
   exact ⟨d, fun _ => hd⟩
  ·exact ⟨fun _ => 0, fun h => absurd h hik⟩
 obtain ⟨c, ⟨i, hik, hci⟩, hc⟩ := more_unknowns m k (fun i l => (Classical.choose (this i)) l) (by omega)
 refine hci (hi c (fun j hj => ?_) i hik)
 have e1 : sumQ k (fun i => c i * v i j) = sumQ k fun i => sumQ m fun l => c i * ((Classical.choose (this i)) l * u l j) := sumQ_congr fun i hi => by
  rw [Classical.choose_spec (this i) hi j hj, sumQ_mul]
 rw [e1, sumQ_comm]
 refine sumQ_zero _ _ fun l hl => ?_
 have e2 : sumQ k (fun i => c i * ((Classical.choose (this i)) l * u l j)) = u l j * sumQ k fun i => c i * (Classical.choose (this i)) l := by
  rw [← sumQ_mul]; exact sumQ_congr fun i _ => by grind
 rw [e2, hc l hl]; grind
def RankIs (R n : Nat) (A : Nat → Nat → Rat) (k : Nat) : Prop := ∃ v : Nat → Nat → Rat, Indep k n v ∧ SpanEq R k n A v
theorem RankIs.uniq {R S n k l : Nat} {A B : Nat → Nat → Rat} (h : RankIs R n A k) (h' : RankIs S n B l) (e : SpanEq R S n A B) : k = l := by
 obtain ⟨v, iv, sv⟩ := h
 obtain ⟨u, iu, su⟩ := h'
 have s := (sv.symm.trans e).trans su
 exact Nat.le_antisymm (steinitz s.1 iv) (steinitz s.2 iu)
theorem RankIs.le_rows {R n k : Nat} {A : Nat → Nat → Rat} (h : RankIs R n A k) : k ≤ R := by
 obtain ⟨v, iv, sv⟩ := h
 exact steinitz sv.2 iv
theorem span_units (n : Nat) (v : Nat → Rat) : Span n n (fun i j => if i = j then 1 else 0) v :=
 ⟨v, fun j hj => by
  rw [sumQ_one n j _ hj (fun i _ hi => by simp [hi])]; simp⟩
theorem RankIs.le_cols {R n k : Nat} {A : Nat → Nat → Rat} (h : RankIs R n A k) : k ≤ n := by
 obtain ⟨v, iv, sv⟩ := h
 exact steinitz (fun i _ => span_units n (v i)) iv
theorem RankIs.more {R n k : Nat} {A : Nat → Nat → Rat} (h : RankIs R n A k) : RankIs (R + 1) n A k ∨ RankIs (R + 1) n A (k + 1) := by
 obtain ⟨v, iv, sv⟩ := h
 by_cases hs : Span k n v (A R)
 ·refine .inl ⟨v, iv, fun i hi => ?_, fun i hi => ?_⟩
  ·by_cases e : i < R
   ·exact sv.1 i e
   ·obtain rfl : i = R := by omega
    exact hs
  ·exact (sv.2 i hi).trans fun j hj => Span.row (by omega)
 ·refine .inr ⟨fun i => if i < k then v i else A R, fun c hc => ?_, fun i hi => ?_, fun i hi => ?_⟩
  ·have hc' : ∀ j, j < n → sumQ k (fun i => c i * v i j) + c k * A R j = 0 := fun j hj => by
    have := hc j hj
    rw [← this]
    show _ = sumQ k _ + c k * (if k < k then v k else A R) j
    rw [if_neg (Nat.lt_irrefl k)]
    congr 1
    exact sumQ_congr fun i hi => by show _ = c i * (if i < k then v i else A R) j; rw [if_pos hi]
   have hk : c k = 0 := by
    apply Classical.byContradiction
    intro hk
    refine hs ⟨fun i => - (c i / c k), fun j hj => ?_⟩
    have := hc' j hj
    have e : sumQ k (fun i => -(c i / c k) * v i j) = (- 1 / c k) * sumQ k (fun i => c i * v i j) := by
     rw [← sumQ_mul]; exact sumQ_congr fun i _ => by grind
    rw [e]
    have h1 : sumQ k (fun i => c i * v i j) = - (c k * A R j) := by grind
    rw [h1]
    grind
   have h0 := iv c fun j hj => by have := hc' j hj; rw [hk] at this; grind
   intro i hi
   by_cases e : i < k
   ·exact h0 i e
   ·obtain rfl : i = k := by omega
    exact hk
  ·by_cases e : i < R
   ·refine (sv.1 i e).trans fun j hj => ?_
    have := Span.row (R := k + 1) (n := n) (A := fun i => if i < k then v i else A R) (i := j) (by omega)
    simpa only [if_pos hj] using this
   ·obtain rfl : i = R := by omega
    have := Span.row (R := k + 1) (n := n) (A := fun j => if j < k then v j else A i) (i := k) (by omega)
    simpa only [if_neg (Nat.lt_irrefl k)] using this
  ·by_cases e : i < k
   ·simp only [if_pos e]
    exact (sv.2 i e).trans fun j hj => Span.row (by omega)
   ·simp only [if_neg e]
    exact Span.row (by omega)
theorem RankIs.steps {R n k : Nat} {A : Nat → Nat → Rat} (hk : k ≤ R) (σ : Nat → Nat) (hσ : ∀ s, s < k → σ s < n ∧ A s (σ s) ≠ 0 ∧ ∀ i, s < i → i < k → A i (σ s) = 0) (h0 : ∀ i, k ≤ i → i < R → ∀ j, j < n → A i j = 0) : RankIs R n A k := by
 refine ⟨A, fun c hc => ?_, fun i hi => ?_, fun i hi => Span.row (by omega)⟩
 ·have : ∀ m i, i < m → i < k → c i = 0 := by
   intro m
   induction m with
   | zero => intro i hi; omega
   | succ m ih =>
    intro i hi hik
    by_cases e : i < m
    ·exact ih i e hik
    ·obtain rfl : i = m := by omega
     obtain ⟨h1, h2, h3⟩ := hσ i hik
     have := hc (σ i) h1
     rw [sumQ_one k i _ hik (fun l hl hli => by
      by_cases hlt : l < i
      ·rw [ih l hlt hl]; grind
      ·rw [h3 l (by omega) hl]; grind)] at this
     rcases Rat.mul_eq_zero.1 this with h | h
     ·exact h
     ·exact absurd h h2
  intro i hi
  exact this (i + 1) i (by omega) hi
 ·by_cases e : i < k
  ·exact Span.row e
  ·exact Span.zero (h0 i (by omega) hi)
end Go.Proofs.YtfminfgabiipjaaGreatDoor
end
