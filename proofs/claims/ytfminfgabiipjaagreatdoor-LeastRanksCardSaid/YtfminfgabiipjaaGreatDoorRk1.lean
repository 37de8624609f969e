/- Rk, part 1: P4 Mag Mag2 Mag3 -/
import Derived.KernelRfl
import Derived.Test.YtfminfgabiipjaaGreatDoorRk0
section
namespace Go.Proofs.YtfminfgabiipjaaGreatDoor.p4
def mval : List Nat → Nat
 | [] => 0
 | d :: l => d + 10000 * mval l
theorem mval_append (l r : List Nat) : mval (l ++ r) = mval l + 10000 ^ l.length * mval r := by
 induction l with
 | nil => simp [mval]
 | cons d l ih =>
  simp only [List.cons_append, mval, ih, List.length_cons, Nat.pow_succ]
  rw [Nat.mul_add, Nat.mul_comm (10000 ^ l.length) 10000, Nat.mul_assoc]; omega
theorem mval_lt (l : List Nat) (h : ∀ d ∈ l, d < 10000) : mval l < 10000 ^ l.length := by
 induction l with
 | nil => simp [mval]
 | cons d l ih =>
  have h1 := h d List.mem_cons_self
  have h2 := ih fun x hx => h x (List.mem_cons_of_mem _ hx)
  simp only [mval, List.length_cons, Nat.pow_succ]
  omega
theorem mval_zeros (n : Nat) : mval (List.replicate n 0) = 0 := by
 induction n with
 | zero => rfl
 | succ n ih => simp [List.replicate_succ, mval, ih]
theorem mval_snoc (l : List Nat) (d : Nat) : mval (l ++ [d]) = mval l + 10000 ^ l.length * d := by
 rw [mval_append]; simp [mval]
theorem mval_set (l : List Nat) (i d : Nat) (h : i < l.length) : mval (l.set i d) + 10000 ^ i * l[i] = mval l + 10000 ^ i * d := by
 induction l generalizing i with
 | nil => exact absurd h (by simp)
 | cons x l ih =>
  cases i with
  | zero => simp [mval]; omega
  | succ i =>
   have h' : i < l.length := by simpa using h
   have := ih i h'
   simp only [List.set_cons_succ, mval, List.getElem_cons_succ, Nat.pow_succ]
   have e1 : 10000 ^ i * 10000 * l[i] = 10000 * (10000 ^ i * l[i]) := by rw [Nat.mul_comm (10000 ^ i), Nat.mul_assoc]
   have e2 : 10000 ^ i * 10000 * d = 10000 * (10000 ^ i * d) := by rw [Nat.mul_comm (10000 ^ i), Nat.mul_assoc]
   omega
theorem mval_less (l m : List Nat) (i : Nat) (hl : ∀ d ∈ l, d < 10000) (hi : i < l.length) (hi' : i < m.length) (h : l[i] < m[i]) (hd : l.drop (i + 1) = m.drop (i + 1)) : mval l < mval m := by
 have e1 : l = l.take i ++ (l[i] :: l.drop (i + 1)) := by rw [← List.drop_eq_getElem_cons hi, List.take_append_drop]
 have e2 : m = m.take i ++ (m[i] :: m.drop (i + 1)) := by rw [← List.drop_eq_getElem_cons hi', List.take_append_drop]
 have b1 : mval (l.take i) < 10000 ^ i := by
  have := mval_lt (l.take i) fun d hd => hl d (List.mem_of_mem_take hd)
  rwa [List.length_take, Nat.min_eq_left (by omega)] at this
 rw [e1, e2, mval_append, mval_append, List.length_take, List.length_take, Nat.min_eq_left (by omega), Nat.min_eq_left (by omega)]
 simp only [mval, hd]
 generalize mval (m.drop (i + 1)) = x
 have : 10000 ^ i * (l[i] + 10000 * x) + 10000 ^ i ≤ 10000 ^ i * (m[i] + 10000 * x) := by
  rw [← Nat.mul_succ]
  exact Nat.mul_le_mul_left _ (by omega)
 omega
theorem mval_longer (l m : List Nat) (hl : ∀ d ∈ l, d < 10000) (h : l.length < m.length) (ht : m.getLast? ≠ some 0) : mval l < mval m := by
 have h1 := mval_lt l hl
 cases hm : m.reverse with
 | nil => rw [List.reverse_eq_nil_iff] at hm; subst hm; exact absurd h (by simp)
 | cons d r =>
  have e : m = r.reverse ++ [d] := by rw [← List.reverse_reverse m, hm, List.reverse_cons]
  have hd : d ≠ 0 := by
   rintro rfl
   apply ht
   rw [e]; simp
  rw [e, mval_snoc]
  have hlen : l.length ≤ r.reverse.length := by rw [e] at h; simp at h ⊢; omega
  have h2 : 10000 ^ l.length ≤ 10000 ^ r.reverse.length := Nat.pow_le_pow_right (by omega) hlen
  have h3 : 10000 ^ r.reverse.length * 1 ≤ 10000 ^ r.reverse.length * d := Nat.mul_le_mul_left _ (by omega)
  omega
def Dig (L : List Nat) : Prop := ∀ k, L.getD k 0 < 10000
theorem Dig.mem {L : List Nat} (h : Dig L) : ∀ d ∈ L, d < 10000 := fun d hd => by
 obtain ⟨i, hi, rfl⟩ := List.getElem_of_mem hd
 have := h i
 rwa [List.getD_eq_getElem?_getD, List.getElem?_eq_getElem hi] at this
theorem Dig.of {L : List Nat} (h : ∀ d ∈ L, d < 10000) : Dig L := fun k => by
 rw [List.getD_eq_getElem?_getD]
 cases hk : L[k]? with
 | none => exact (by decide : 0 < 10000)
 | some x => exact h x (List.mem_of_getElem? hk)
theorem Dig.nil : Dig [] := Dig.of (by simp)
theorem Dig.snoc {L : List Nat} (h : Dig L) {d : Nat} (hd : d < 10000) : Dig (L ++ [d]) := Dig.of fun x hx => by
 rcases List.mem_append.1 hx with hx | hx
 ·exact h.mem x hx
 ·rw [List.mem_singleton.1 hx]; exact hd
theorem Dig.set {L : List Nat} (h : Dig L) {d : Nat} (hd : d < 10000) (i : Nat) : Dig (L.set i d) := Dig.of fun x hx => by
 rcases List.mem_or_eq_of_mem_set hx with hx | rfl
 ·exact h.mem x hx
 ·exact hd
theorem Dig.take {L : List Nat} (h : Dig L) (n : Nat) : Dig (L.take n) := Dig.of fun x hx => h.mem x (List.mem_of_mem_take hx)
theorem Dig.drop {L : List Nat} (h : Dig L) (n : Nat) : Dig (L.drop n) := Dig.of fun x hx => h.mem x (List.mem_of_mem_drop hx)
theorem Dig.append {L M : List Nat} (h : Dig L) (h' : Dig M) : Dig (L ++ M) := Dig.of fun x hx => (List.mem_append.1 hx).elim (h.mem x) (h'.mem x)
theorem Dig.zeros (n : Nat) : Dig (List.replicate n 0) := Dig.of fun x hx => by rw [(List.mem_replicate.1 hx).2]; decide
theorem Dig.lt {L : List Nat} (h : Dig L) : mval L < 10000 ^ L.length := mval_lt L h.mem
theorem getD_lt_len {L : List Nat} {k : Nat} (h : k < L.length) : L[k]? = some (L.getD k 0) := by
 rw [List.getElem?_eq_getElem h, List.getD_eq_getElem?_getD, List.getElem?_eq_getElem h]; rfl
theorem getD_ge {L : List Nat} {k : Nat} (h : L.length ≤ k) : L.getD k 0 = 0 := by
 rw [List.getD_eq_getElem?_getD, List.getElem?_eq_none h]; rfl
theorem mval_take_succ (L : List Nat) (k : Nat) : mval (L.take (k + 1)) = mval (L.take k) + 10000 ^ k * L.getD k 0 := by
 by_cases h : k < L.length
 ·rw [List.take_add_one, getD_lt_len h]
  show mval (L.take k ++ [L.getD k 0]) = _
  rw [mval_snoc, List.length_take, Nat.min_eq_left (Nat.le_of_lt h)]
 ·rw [List.take_of_length_le (by omega), List.take_of_length_le (by omega), getD_ge (by omega)]; simp
theorem mval_drop (L : List Nat) (k : Nat) : mval (L.drop k) = L.getD k 0 + 10000 * mval (L.drop (k + 1)) := by
 by_cases h : k < L.length
 ·rw [List.drop_eq_getElem_cons h]
  simp only [mval]
  rw [List.getD_eq_getElem?_getD, List.getElem?_eq_getElem h]; rfl
 ·rw [List.drop_of_length_le (by omega), List.drop_of_length_le (by omega), getD_ge (by omega)]; simp [mval]
theorem mval_take_drop (L : List Nat) (k : Nat) (hk : k ≤ L.length) : mval L = mval (L.take k) + 10000 ^ k * mval (L.drop k) := by
 conv => lhs; rw [← List.take_append_drop k L]
 rw [mval_append, List.length_take, Nat.min_eq_left hk]
theorem getD_set_ne {L : List Nat} {i j d : Nat} (h : i ≠ j) : (L.set i d).getD j 0 = L.getD j 0 := by
 rw [List.getD_eq_getElem?_getD, List.getElem?_set_ne h, ← List.getD_eq_getElem?_getD]
theorem getD_set_eq {L : List Nat} {i d : Nat} (h : i < L.length) : (L.set i d).getD i 0 = d := by
 rw [List.getD_eq_getElem?_getD, List.getElem?_set_self h]; rfl
theorem mval_take_set {L : List Nat} {k d : Nat} (h : k < L.length) : mval ((L.set k d).take (k + 1)) = mval (L.take k) + 10000 ^ k * d := by
 rw [mval_take_succ, getD_set_eq h]
 congr 2
 rw [List.take_set_of_le qN]
theorem mval_drop_set {L : List Nat} {k d : Nat} (h : k < L.length) : mval ((L.set k d).drop k) = d + 10000 * mval (L.drop (k + 1)) := by
 rw [mval_drop, getD_set_eq h, List.drop_set_of_lt (by omega)]
theorem mval_set' {L : List Nat} {k d : Nat} (h : k < L.length) : mval (L.set k d) + 10000 ^ k * L.getD k 0 = mval L + 10000 ^ k * d := by
 have := mval_set L k d h
 rwa [List.getD_eq_getElem?_getD, List.getElem?_eq_getElem h]
def Zero (L : List Nat) (n : Nat) : Prop := ∀ k, n ≤ k → L.getD k 0 = 0
theorem Zero.all (L : List Nat) : Zero L L.length := fun _ h => getD_ge h
theorem Zero.mono {L : List Nat} {n m : Nat} (h : Zero L n) (hm : n ≤ m) : Zero L m := fun k hk => h k (by omega)
theorem Zero.zeros (n m : Nat) : Zero (List.replicate n 0) m := fun k _ => by
 by_cases h : k < n
 ·rw [List.getD_eq_getElem?_getD, List.getElem?_replicate, if_pos h]; rfl
 ·exact getD_ge (by rw [List.length_replicate]; omega)
theorem Zero.set {L : List Nat} {n k d : Nat} (h : Zero L n) (hk : k < n) : Zero (L.set k d) n := fun j hj => by rw [getD_set_ne (by omega)]; exact h j hj
theorem Zero.set_succ {L : List Nat} {n d : Nat} (h : Zero L n) : Zero (L.set n d) (n + 1) := fun j hj => by rw [getD_set_ne (by omega)]; exact h j (by omega)
theorem Zero.down {L : List Nat} {n : Nat} (h : Zero L (n + 1)) (h0 : L.getD n 0 = 0) : Zero L n := fun k hk => by
 by_cases e : k = n
 ·rw [e]; exact h0
 ·exact h k (by omega)
theorem mval_zero_drop {L : List Nat} {n : Nat} (h : Zero L n) : mval (L.drop n) = 0 := by
 induction hm : L.length - n generalizing n with
 | zero => rw [List.drop_of_length_le (by omega)]; rfl
 | succ m ih =>
  rw [mval_drop, h n qN, ih (h.mono (by omega)) (by omega)]
theorem mval_zero_take {L : List Nat} {n : Nat} (h : Zero L n) : mval (L.take n) = mval L := by
 by_cases hn : n ≤ L.length
 ·rw [mval_take_drop L n hn, mval_zero_drop h]; omega
 ·rw [List.take_of_length_le (by omega)]
theorem Zero.lt {L : List Nat} {n : Nat} (h : Zero L n) (hd : Dig L) : mval L < 10000 ^ n := by
 rw [← mval_zero_take h]
 refine Nat.lt_of_lt_of_le (hd.take n).lt (Nat.pow_le_pow_right (by decide) ?_)
 rw [List.length_take]; exact Nat.min_le_left _ _
def Nrm (L : List Nat) : Prop := L.length = 0 ∨ L.getD (L.length - 1) 0 ≠ 0
theorem Nrm.ge {L : List Nat} (h : Nrm L) (h0 : 0 < L.length) : 10000 ^ (L.length - 1) ≤ mval L := by
 have h1 := h.resolve_left (by omega)
 have e := mval_take_succ L (L.length - 1)
 rw [show L.length - 1 + 1 = L.length by omega, List.take_length] at e
 rw [e]
 exact Nat.le_trans (Nat.le_mul_of_pos_right _ (Nat.pos_of_ne_zero h1)) (Nat.le_add_left _ _)
theorem Nrm.of_ge {L : List Nat} (hd : Dig L) (h : L.length = 0 ∨ 10000 ^ (L.length - 1) ≤ mval L) : Nrm L := by
 rcases h with h | h
 ·exact Or.inl h
 ·rcases Nat.eq_zero_or_pos L.length with h0 | h0
  ·exact Or.inl h0
  ·right
   intro hz
   have e := mval_take_succ L (L.length - 1)
   rw [show L.length - 1 + 1 = L.length by omega, List.take_length, hz, Nat.mul_zero, Nat.add_zero] at e
   have h1 := mval_lt (L.take (L.length - 1)) (hd.mem · <| List.mem_of_mem_take ·)
   rw [List.length_take, Nat.min_eq_left (by omega)] at h1
   omega
theorem Nrm.snoc (L : List Nat) {d : Nat} (h : d ≠ 0) : Nrm (L ++ [d]) := by
 right
 rw [List.length_append, List.length_singleton, Nat.add_sub_cancel, List.getD_eq_getElem?_getD, List.getElem?_append_right qN, Nat.sub_self]
 exact h
theorem Nrm.zero {L : List Nat} (h : Nrm L) : mval L = 0 ↔ L.length = 0 := by
 constructor
 ·intro e
  rcases Nat.eq_zero_or_pos L.length with h0 | h0
  ·exact h0
  ·have := h.ge h0
   have := Nat.pow_pos (n := L.length - 1) (show 0 < 10000 by decide)
   omega
 ·intro e
  rw [List.length_eq_zero_iff.1 e]; rfl
theorem Nrm.len {L : List Nat} (h : Nrm L) {n : Nat} (hv : mval L < 10000 ^ n) : L.length ≤ n := by
 rcases Nat.eq_zero_or_pos L.length with h0 | h0
 ·omega
 ·have h1 := h.ge h0
  have h2 := (Nat.pow_lt_pow_iff_right (show 1 < 10000 by decide)).1 (Nat.lt_of_le_of_lt h1 hv)
  omega
theorem Nrm.uniq : ∀ {L M : List Nat}, Dig L → Dig M → L.length = M.length → mval L = mval M → L = M
 | [], [], _, _, _, _ => rfl
 | [], _ :: _, _, _, h, _ => by simp at h
 | _ :: _, [], _, _, h, _ => by simp at h
 | x :: L, y :: M, hL, hM, h, hv => by
  have h1 : x < 10000 := hL 0
  have h2 : y < 10000 := hM 0
  simp only [mval] at hv
  have e : x = y := by omega
  rw [e, Nrm.uniq (L := L) (M := M) (fun k => hL (k + 1)) (fun k => hM (k + 1)) (by simpa using h) (by omega)]
theorem Nrm.same {L M : List Nat} (hL : Dig L) (hM : Dig M) (nL : Nrm L) (nM : Nrm M) (h : mval L = mval M) : L = M := by
 have h1 := nL.len (n := M.length) (by rw [h]; exact hM.lt)
 have h2 := nM.len (n := L.length) (by rw [← h]; exact hL.lt)
 exact Nrm.uniq hL hM (by omega) h
theorem plus_alg {P B x y z s c c' m o : Nat} (h1 : x + P * c = y + z) (h2 : s + B * c' = m + c + o) : x + P * s + P * B * c' = y + P * m + (z + P * o) := by
 have h := congrArg (P * ·) h2
 simp only [Nat.mul_add] at h
 have e1 : P * B * c' = P * (B * c') := by simp only [Nat.mul_assoc]
 omega
theorem minus_alg {P B x y z s b b' m o : Nat} (h1 : x + z = y + P * b) (h2 : s + b + o = m + B * b') : x + P * s + (z + P * o) = y + P * m + P * B * b' := by
 have h := congrArg (P * ·) h2
 simp only [Nat.mul_add] at h
 have e1 : P * B * b' = P * (B * b') := by simp only [Nat.mul_assoc]
 omega
theorem times_alg {A C B x p s c c' d e X Y Z: Nat} (h1 : Y + A * C * p = x + A * C * s) (h2 : x + A * C * c = X + A * d * Z) (h3 : s + B * c' = c + (p + d * e)) : Y + A * (C * B) * c' = X + A * d * (Z + C * e) := by
 have h := congrArg (A * C * ·) h3
 simp only [Nat.mul_add] at h ⊢
 have e1 : A * (C * B) * c' = A * C * (B * c') := by simp only [Nat.mul_assoc]
 have e2 : A * d * (C * e) = A * C * (d * e) := by simp only [Nat.mul_assoc, Nat.mul_left_comm]
 omega
theorem next_alg {A A1 E E1 x c d d1 X Y Z : Nat} (h1 : Y + E * 0 = x + E * c) (h2 : x + E * c = X * Z + A * d * Z) : Y + E1 * 0 = (X + A * d) * Z + A1 * d1 * mval [] := by
 simp only [mval, Nat.mul_zero, Nat.add_zero, Nat.add_mul] at *
 omega
theorem short_alg {B R d r m M q t : Nat} (h1 : R * d + r = M) (h2 : d * q + t = r * B + m) : (q + B * R) * d + t = m + B * M := by
 subst h1
 simp only [Nat.mul_add, Nat.add_mul]
 have e1 : B * R * d = B * (R * d) := by simp only [Nat.mul_assoc]
 have e2 : q * d = d * q := Nat.mul_comm _ _
 have e3 : r * B = B * r := Nat.mul_comm _ _
 omega
structure PlusInv (m o : List Nat) (k : Nat) (L : List Nat) (c : Nat) : Prop where
 len : L.length = k
 dig : Dig L
 carry : c ≤ 1
 val : mval L + 10000 ^ k * c = mval (m.take k) + mval (o.take k)
theorem PlusInv.start (m o : List Nat) : PlusInv m o 0 [] 0 := ⟨rfl, Dig.nil, by decide, by simp [mval]⟩
theorem PlusInv.step {m o L : List Nat} {k c s c' : Nat} (h : PlusInv m o k L c) (hs : s < 10000) (hc : c' ≤ 1) (e : s + 10000 * c' = m.getD k 0 + c + o.getD k 0) : PlusInv m o (k + 1) (L ++ [s]) c' := by
 refine ⟨by rw [List.length_append, h.len]; rfl, h.dig.snoc hs, hc, ?_⟩
 have hv := h.val
 rw [mval_snoc, h.len, mval_take_succ, mval_take_succ, Nat.pow_succ]
 exact plus_alg hv e
theorem PlusInv.done {m o L : List Nat} {c : Nat} (h : PlusInv m o m.length L c) (ho : o.length ≤ m.length) : mval L + 10000 ^ m.length * c = mval m + mval o := by
 have := h.val
 rwa [List.take_of_length_le qN, List.take_of_length_le ho] at this
structure MinusInv (m o : List Nat) (k : Nat) (R : List Nat) (b : Nat) : Prop where
 len : R.length = m.length
 dig : Dig R
 carry : b ≤ 1
 val : mval (R.take k) + mval (o.take k) = mval (m.take k) + 10000 ^ k * b
theorem MinusInv.start (m o : List Nat) : MinusInv m o 0 (List.replicate m.length 0) 0 := ⟨by simp, Dig.zeros _, by decide, by simp [mval]⟩
theorem MinusInv.step {m o R : List Nat} {k b s b' : Nat} (h : MinusInv m o k R b) (hk : k < m.length) (hs : s < 10000) (hb : b' ≤ 1) (e : s + b + o.getD k 0 = m.getD k 0 + 10000 * b') : MinusInv m o (k + 1) (R.set k s) b' := by
 refine ⟨by rw [List.length_set, h.len], h.dig.set hs _, hb, ?_⟩
 have hv := h.val
 rw [mval_take_set (by rw [h.len]; exact hk), mval_take_succ, mval_take_succ, Nat.pow_succ]
 exact minus_alg hv e
theorem MinusInv.done {m o R : List Nat} {b : Nat} (h : MinusInv m o m.length R b) (ho : o.length ≤ m.length) (hle : mval o ≤ mval m) : mval R = mval m - mval o := by
 have hv := h.val
 rw [List.take_of_length_le qN, List.take_of_length_le ho, List.take_of_length_le (by rw [h.len]; exact Nat.le_refl _)] at hv
 have h1 := h.dig.lt
 rw [h.len] at h1
 have h2 := h.carry
 rcases (show b = 0 ∨ b = 1 by omega) with rfl | rfl
 ·omega
 ·omega
structure TimesInv (m o : List Nat) (i j : Nat) (P : List Nat) (c : Nat) : Prop where
 len : P.length = m.length + o.length
 dig : Dig P
 carry : c < 10000
 zero : Zero P (i + o.length)
 val : mval P + 10000 ^ (i + j) * c = mval (m.take i) * mval o + 10000 ^ i * m.getD i 0 * mval (o.take j)
theorem TimesInv.start (m o : List Nat) : TimesInv m o 0 0 (List.replicate (m.length + o.length) 0) 0 := ⟨by simp, Dig.zeros _, by decide, Zero.zeros _ _, by simp [mval, mval_zeros]⟩
theorem TimesInv.step {m o P : List Nat} {i j c s c' : Nat} (h : TimesInv m o i j P c) (hi : i < m.length) (hj : j < o.length) (hs : s < 10000) (hc : c' < 10000) (e : s + 10000 * c' = c + (P.getD (i + j) 0 + m.getD i 0 * o.getD j 0)) : TimesInv m o i (j + 1) (P.set (i + j) s) c' := by
 refine ⟨by rw [List.length_set, h.len], h.dig.set hs _, hc, h.zero.set (by omega), ?_⟩
 have hv := h.val
 have hs := mval_set' (L := P) (k := i + j) (d := s) (by rw [h.len]; omega)
 rw [mval_take_succ, Nat.pow_add, Nat.pow_succ]
 rw [Nat.pow_add] at hs hv
 exact times_alg hs hv e
theorem TimesInv.next {m o P : List Nat} {i c : Nat} (h : TimesInv m o i o.length P c) (hi : i < m.length) : TimesInv m o (i + 1) 0 (P.set (i + o.length) c) 0 := by
 refine ⟨by rw [List.length_set, h.len], h.dig.set h.carry _, by decide, ?_, ?_⟩
 ·have := h.zero.set_succ (d := c)
  rwa [show i + o.length + 1 = i + 1 + o.length by omega] at this
 have hv := h.val
 have hs := mval_set' (L := P) (k := i + o.length) (d := c) (by rw [h.len]; omega)
 rw [h.zero _ qN] at hs
 rw [List.take_of_length_le qN] at hv
 rw [mval_take_succ, List.take_zero]
 exact next_alg hs hv
theorem TimesInv.done {m o P : List Nat} {c : Nat} (h : TimesInv m o m.length 0 P c) (hc : c = 0) : mval P = mval m * mval o := by
 have hv := h.val
 subst hc
 rw [List.take_of_length_le qN] at hv
 simpa [mval] using hv
theorem times_carry {c p d e : Nat} (hc : c < 10000) (hp : p < 10000) (hd : d < 10000) (he : e < 10000) : c + (p + d * e) < 100000000 := by
 have : d * e ≤ 9999 * 9999 := Nat.mul_le_mul (by omega) (by omega)
 omega
structure ShortInv (m : List Nat) (d k : Nat) (R : List Nat) (r : Nat) : Prop where
 len : R.length = m.length
 dig : Dig R
 rest : r < d
 val : mval (R.drop k) * d + r = mval (m.drop k)
theorem ShortInv.start (m : List Nat) {d : Nat} (hd : 0 < d) : ShortInv m d m.length (List.replicate m.length 0) 0 := ⟨by simp, Dig.zeros _, hd, by rw [List.drop_of_length_le (by simp), List.drop_of_length_le (by simp)]; simp [mval]⟩
theorem ShortInv.step {m R : List Nat} {d k r : Nat} (h : ShortInv m d (k + 1) R r) (hk : k < m.length) (hm : Dig m) : ShortInv m d k (R.set k ((r * 10000 + m.getD k 0) / d)) ((r * 10000 + m.getD k 0) % d) := by
 have hd : 0 < d := by have := h.rest; omega
 have hq : (r * 10000 + m.getD k 0) / d < 10000 := by
  rw [Nat.div_lt_iff_lt_mul hd]
  have h1 := hm k
  have h2 := h.rest
  have : (r + 1) * 10000 ≤ d * 10000 := Nat.mul_le_mul_right _ (by omega)
  omega
 refine ⟨by rw [List.length_set, h.len], h.dig.set hq _, Nat.mod_lt _ hd, ?_⟩
 rw [mval_drop_set (by rw [h.len]; exact hk), mval_drop m k, ← h.val]
 have := Nat.div_add_mod (r * 10000 + m.getD k 0) d
 exact short_alg rfl this
theorem ShortInv.done {m R : List Nat} {d r : Nat} (h : ShortInv m d 0 R r) : mval R = mval m / d ∧ r = mval m % d := by
 have hv := h.val
 simp only [List.drop_zero] at hv
 have hr := h.rest
 rw [← hv]
 constructor
 ·rw [Nat.mul_comm, Nat.mul_add_div (by omega), Nat.div_eq_of_lt hr]; rfl
 ·rw [Nat.mul_comm, Nat.mul_add_mod, Nat.mod_eq_of_lt hr]
end Go.Proofs.YtfminfgabiipjaaGreatDoor.p4
end
section
namespace Go.Proofs.YtfminfgabiipjaaGreatDoor
def mval : List Nat → Nat
 | [] => 0
 | d :: l => d + 1000000000 * mval l
theorem mval_append (l r : List Nat) : mval (l ++ r) = mval l + 1000000000 ^ l.length * mval r := by
 induction l with
 | nil => simp [mval]
 | cons d l ih =>
  simp only [List.cons_append, mval, ih, List.length_cons, Nat.pow_succ]
  rw [Nat.mul_add, Nat.mul_comm (1000000000 ^ l.length) 1000000000, Nat.mul_assoc]; omega
theorem mval_lt (l : List Nat) (h : ∀ d ∈ l, d < 1000000000) : mval l < 1000000000 ^ l.length := by
 induction l with
 | nil => simp [mval]
 | cons d l ih =>
  have h1 := h d List.mem_cons_self
  have h2 := ih fun x hx => h x (List.mem_cons_of_mem _ hx)
  simp only [mval, List.length_cons, Nat.pow_succ]
  omega
theorem mval_zeros (n : Nat) : mval (List.replicate n 0) = 0 := by
 induction n with
 | zero => rfl
 | succ n ih => simp [List.replicate_succ, mval, ih]
theorem mval_snoc (l : List Nat) (d : Nat) : mval (l ++ [d]) = mval l + 1000000000 ^ l.length * d := by
 rw [mval_append]; simp [mval]
theorem mval_set (l : List Nat) (i d : Nat) (h : i < l.length) : mval (l.set i d) + 1000000000 ^ i * l[i] = mval l + 1000000000 ^ i * d := by
 induction l generalizing i with
 | nil => exact absurd h (by simp)
 | cons x l ih =>
  cases i with
  | zero => simp [mval]; omega
  | succ i =>
   have h' : i < l.length := by simpa using h
   have := ih i h'
   simp only [List.set_cons_succ, mval, List.getElem_cons_succ, Nat.pow_succ]
   have e1 : 1000000000 ^ i * 1000000000 * l[i] = 1000000000 * (1000000000 ^ i * l[i]) := by rw [Nat.mul_comm (1000000000 ^ i), Nat.mul_assoc]
   have e2 : 1000000000 ^ i * 1000000000 * d = 1000000000 * (1000000000 ^ i * d) := by rw [Nat.mul_comm (1000000000 ^ i), Nat.mul_assoc]
   omega
theorem mval_less (l m : List Nat) (i : Nat) (hl : ∀ d ∈ l, d < 1000000000) (hi : i < l.length) (hi' : i < m.length) (h : l[i] < m[i]) (hd : l.drop (i + 1) = m.drop (i + 1)) : mval l < mval m := by
 have e1 : l = l.take i ++ (l[i] :: l.drop (i + 1)) := by rw [← List.drop_eq_getElem_cons hi, List.take_append_drop]
 have e2 : m = m.take i ++ (m[i] :: m.drop (i + 1)) := by rw [← List.drop_eq_getElem_cons hi', List.take_append_drop]
 have b1 : mval (l.take i) < 1000000000 ^ i := by
  have := mval_lt (l.take i) fun d hd => hl d (List.mem_of_mem_take hd)
  rwa [List.length_take, Nat.min_eq_left (by omega)] at this
 rw [e1, e2, mval_append, mval_append, List.length_take, List.length_take, Nat.min_eq_left (by omega), Nat.min_eq_left (by omega)]
 simp only [mval, hd]
 generalize mval (m.drop (i + 1)) = x
 have : 1000000000 ^ i * (l[i] + 1000000000 * x) + 1000000000 ^ i ≤ 1000000000 ^ i * (m[i] + 1000000000 * x) := by
  rw [← Nat.mul_succ]
  exact Nat.mul_le_mul_left _ (by omega)
 omega
theorem mval_longer (l m : List Nat) (hl : ∀ d ∈ l, d < 1000000000) (h : l.length < m.length) (ht : m.getLast? ≠ some 0) : mval l < mval m := by
 have h1 := mval_lt l hl
 cases hm : m.reverse with
 | nil => rw [List.reverse_eq_nil_iff] at hm; subst hm; exact absurd h (by simp)
 | cons d r =>
  have e : m = r.reverse ++ [d] := by rw [← List.reverse_reverse m, hm, List.reverse_cons]
  have hd : d ≠ 0 := by
   rintro rfl
   apply ht
   rw [e]; simp
  rw [e, mval_snoc]
  have hlen : l.length ≤ r.reverse.length := by rw [e] at h; simp at h ⊢; omega
  have h2 : 1000000000 ^ l.length ≤ 1000000000 ^ r.reverse.length := Nat.pow_le_pow_right (by omega) hlen
  have h3 : 1000000000 ^ r.reverse.length * 1 ≤ 1000000000 ^ r.reverse.length * d := Nat.mul_le_mul_left _ (by omega)
  omega
section
variable {B U V T head top u2 v2 lu lv : Nat}
theorem est_first (_hT : 0 < T) (hU : U = (head * B + u2) * T + lu) (hV : V = (top * B + v2) * T + lv) (hu2 : u2 < B) (hlu : lu < T) (ht : 0 < top) : U / V ≤ head / top := by
 rw [Nat.le_div_iff_mul_le ht]
 have h1 : U / V * V ≤ U := Nat.div_mul_le_self U V
 generalize U / V = Q at *
 have h2 : Q * (top * B * T) ≤ Q * V := Nat.mul_le_mul_left _ (by
  rw [hV, Nat.add_mul]; omega)
 have h3 : U < (head + 1) * B * T := by
  rw [hU]
  have : (head * B + u2 + 1) * T ≤ (head + 1) * B * T := Nat.mul_le_mul_right _ (by rw [Nat.add_mul head 1, Nat.one_mul]; omega)
  have e : (head * B + u2 + 1) * T = (head * B + u2) * T + T := by rw [Nat.add_mul _ 1, Nat.one_mul]
  omega
 have h4 : Q * top * (B * T) < (head + 1) * (B * T) := by
  have e1 : Q * top * (B * T) = Q * (top * B * T) := by rw [Nat.mul_assoc, Nat.mul_assoc]
  have e2 : (head + 1) * (B * T) = (head + 1) * B * T := by rw [Nat.mul_assoc]
  omega
 have := Nat.lt_of_mul_lt_mul_right h4
 omega
theorem est_test (hV0 : 0 < V) (hU : U = (head * B + u2) * T + lu) (hV : V = (top * B + v2) * T + lv) (hlu : lu < T) {q r : Nat} (hq : q * top + r = head) (h : r * B + u2 < q * v2) : U / V < q := by
 rw [Nat.div_lt_iff_lt_mul hV0]
 have h1 : head * B + u2 + 1 ≤ q * (top * B + v2) := by
  have e : q * top * B + r * B = head * B := by rw [← hq, Nat.add_mul]
  have e2 : q * (top * B + v2) = q * top * B + q * v2 := by rw [Nat.mul_add, Nat.mul_assoc]
  omega
 have h2 : (head * B + u2 + 1) * T ≤ q * (top * B + v2) * T := Nat.mul_le_mul_right _ h1
 have h3 : q * (top * B + v2) * T ≤ q * V := by
  rw [Nat.mul_assoc]; exact Nat.mul_le_mul_left _ (by omega)
 have h4 : (head * B + u2 + 1) * T = (head * B + u2) * T + T := by rw [Nat.add_mul _ 1, Nat.one_mul]
 omega
theorem est_done (hV0 : 0 < V) (hU : U = (head * B + u2) * T + lu) (hV : V = (top * B + v2) * T + lv) (hlv : lv < T) (ht : 0 < top) {q r : Nat} (hqB : q ≤ B) (hq : q * top + r = head) (h : q * v2 ≤ r * B + u2) : q ≤ U / V + 1 := by
 rcases Nat.eq_zero_or_pos q with rfl | hq0
 ·exact Nat.zero_le _
 obtain ⟨p, rfl⟩ : ∃ p, q = p + 1 := ⟨q - 1, by omega⟩
 have : p ≤ U / V := by
  rw [Nat.le_div_iff_mul_le hV0]
  have h1 : p * V ≤ p * ((top * B + v2 + 1) * T) := Nat.mul_le_mul_left _ (by rw [hV, Nat.add_mul (top * B + v2) 1, Nat.one_mul]; omega)
  have h2 : p * (top * B + v2 + 1) ≤ head * B + u2 := by
   have e : (p + 1) * top * B + r * B = head * B := by rw [← hq]; exact (Nat.add_mul _ _ _).symm
   have e2 : (p + 1) * top * B = p * (top * B) + top * B := by rw [Nat.add_mul p 1, Nat.one_mul, Nat.add_mul, Nat.mul_assoc]
   have e3 : p * (top * B + v2 + 1) = p * (top * B) + p * v2 + p := by rw [Nat.mul_add, Nat.mul_add, Nat.mul_one]
   have e4 : (p + 1) * v2 = p * v2 + v2 := by rw [Nat.add_mul, Nat.one_mul]
   have e5 : B ≤ top * B := Nat.le_mul_of_pos_left _ ht
   rw [e3]
   rw [e2] at e
   rw [e4] at h
   omega
  have h3 : p * (top * B + v2 + 1) * T ≤ (head * B + u2) * T := Nat.mul_le_mul_right _ h2
  rw [Nat.mul_assoc] at h3
  omega
 omega
theorem est_head (_hT : 0 < T) (_hB : 0 < B) (hU : U = (head * B + u2) * T + lu) (hV : V = (top * B + v2) * T + lv) (hv2 : v2 < B) (hlv : lv < T) (h : U < B * V) : head < (top + 1) * B := by
 have h1 : V < (top + 1) * B * T := by
  have e : (top * B + v2 + 1) * T ≤ (top + 1) * B * T := Nat.mul_le_mul_right _ (by rw [Nat.add_mul top 1, Nat.one_mul]; omega)
  have e2 : (top * B + v2 + 1) * T = (top * B + v2) * T + T := by rw [Nat.add_mul _ 1, Nat.one_mul]
  omega
 have h2 : head * (B * T) ≤ U := by
  rw [hU, Nat.add_mul, Nat.mul_assoc head]; omega
 have h3 : B * V ≤ B * ((top + 1) * B * T) := Nat.mul_le_mul_left _ (Nat.le_of_lt h1)
 have h4 : B * ((top + 1) * B * T) = (top + 1) * B * (B * T) := by
  rw [← Nat.mul_assoc, Nat.mul_comm B ((top + 1) * B), Nat.mul_assoc]
 have h5 : head * (B * T) < (top + 1) * B * (B * T) := by omega
 exact Nat.lt_of_mul_lt_mul_right h5
end
end Go.Proofs.YtfminfgabiipjaaGreatDoor
end
section
namespace Go.Proofs.YtfminfgabiipjaaGreatDoor
def Dig (L : List Nat) : Prop := ∀ k, L.getD k 0 < 1000000000
theorem Dig.mem {L : List Nat} (h : Dig L) : ∀ d ∈ L, d < 1000000000 := fun d hd => by
 obtain ⟨i, hi, rfl⟩ := List.getElem_of_mem hd
 have := h i
 rwa [List.getD_eq_getElem?_getD, List.getElem?_eq_getElem hi] at this
theorem Dig.of {L : List Nat} (h : ∀ d ∈ L, d < 1000000000) : Dig L := fun k => by
 rw [List.getD_eq_getElem?_getD]
 cases hk : L[k]? with
 | none => exact (by decide : 0 < 1000000000)
 | some x => exact h x (List.mem_of_getElem? hk)
theorem Dig.nil : Dig [] := Dig.of (by simp)
theorem Dig.snoc {L : List Nat} (h : Dig L) {d : Nat} (hd : d < 1000000000) : Dig (L ++ [d]) := Dig.of fun x hx => by
 rcases List.mem_append.1 hx with hx | hx
 ·exact h.mem x hx
 ·rw [List.mem_singleton.1 hx]; exact hd
theorem Dig.set {L : List Nat} (h : Dig L) {d : Nat} (hd : d < 1000000000) (i : Nat) : Dig (L.set i d) := Dig.of fun x hx => by
 rcases List.mem_or_eq_of_mem_set hx with hx | rfl
 ·exact h.mem x hx
 ·exact hd
theorem Dig.take {L : List Nat} (h : Dig L) (n : Nat) : Dig (L.take n) := Dig.of fun x hx => h.mem x (List.mem_of_mem_take hx)
theorem Dig.drop {L : List Nat} (h : Dig L) (n : Nat) : Dig (L.drop n) := Dig.of fun x hx => h.mem x (List.mem_of_mem_drop hx)
theorem Dig.append {L M : List Nat} (h : Dig L) (h' : Dig M) : Dig (L ++ M) := Dig.of fun x hx => (List.mem_append.1 hx).elim (h.mem x) (h'.mem x)
theorem Dig.zeros (n : Nat) : Dig (List.replicate n 0) := Dig.of fun x hx => by rw [(List.mem_replicate.1 hx).2]; decide
theorem Dig.lt {L : List Nat} (h : Dig L) : mval L < 1000000000 ^ L.length := mval_lt L h.mem
theorem getD_lt_len {L : List Nat} {k : Nat} (h : k < L.length) : L[k]? = some (L.getD k 0) := by
 rw [List.getElem?_eq_getElem h, List.getD_eq_getElem?_getD, List.getElem?_eq_getElem h]; rfl
theorem getD_ge {L : List Nat} {k : Nat} (h : L.length ≤ k) : L.getD k 0 = 0 := by
 rw [List.getD_eq_getElem?_getD, List.getElem?_eq_none h]; rfl
theorem mval_take_succ (L : List Nat) (k : Nat) : mval (L.take (k + 1)) = mval (L.take k) + 1000000000 ^ k * L.getD k 0 := by
 by_cases h : k < L.length
 ·rw [List.take_add_one, getD_lt_len h]
  show mval (L.take k ++ [L.getD k 0]) = _
  rw [mval_snoc, List.length_take, Nat.min_eq_left (Nat.le_of_lt h)]
 ·rw [List.take_of_length_le (by omega), List.take_of_length_le (by omega), getD_ge (by omega)]; simp
theorem mval_drop (L : List Nat) (k : Nat) : mval (L.drop k) = L.getD k 0 + 1000000000 * mval (L.drop (k + 1)) := by
 by_cases h : k < L.length
 ·rw [List.drop_eq_getElem_cons h]
  simp only [mval]
  rw [List.getD_eq_getElem?_getD, List.getElem?_eq_getElem h]; rfl
 ·rw [List.drop_of_length_le (by omega), List.drop_of_length_le (by omega), getD_ge (by omega)]; simp [mval]
theorem mval_take_drop (L : List Nat) (k : Nat) (hk : k ≤ L.length) : mval L = mval (L.take k) + 1000000000 ^ k * mval (L.drop k) := by
 conv => lhs; rw [← List.take_append_drop k L]
 rw [mval_append, List.length_take, Nat.min_eq_left hk]
theorem getD_set_ne {L : List Nat} {i j d : Nat} (h : i ≠ j) : (L.set i d).getD j 0 = L.getD j 0 := by
 rw [List.getD_eq_getElem?_getD, List.getElem?_set_ne h, ← List.getD_eq_getElem?_getD]
theorem getD_set_eq {L : List Nat} {i d : Nat} (h : i < L.length) : (L.set i d).getD i 0 = d := by
 rw [List.getD_eq_getElem?_getD, List.getElem?_set_self h]; rfl
theorem mval_take_set {L : List Nat} {k d : Nat} (h : k < L.length) : mval ((L.set k d).take (k + 1)) = mval (L.take k) + 1000000000 ^ k * d := by
 rw [mval_take_succ, getD_set_eq h]
 congr 2
 rw [List.take_set_of_le qN]
theorem mval_drop_set {L : List Nat} {k d : Nat} (h : k < L.length) : mval ((L.set k d).drop k) = d + 1000000000 * mval (L.drop (k + 1)) := by
 rw [mval_drop, getD_set_eq h, List.drop_set_of_lt (by omega)]
theorem mval_set' {L : List Nat} {k d : Nat} (h : k < L.length) : mval (L.set k d) + 1000000000 ^ k * L.getD k 0 = mval L + 1000000000 ^ k * d := by
 have := mval_set L k d h
 rwa [List.getD_eq_getElem?_getD, List.getElem?_eq_getElem h]
def Zero (L : List Nat) (n : Nat) : Prop := ∀ k, n ≤ k → L.getD k 0 = 0
theorem Zero.all (L : List Nat) : Zero L L.length := fun _ h => getD_ge h
theorem Zero.mono {L : List Nat} {n m : Nat} (h : Zero L n) (hm : n ≤ m) : Zero L m := fun k hk => h k (by omega)
theorem Zero.zeros (n m : Nat) : Zero (List.replicate n 0) m := fun k _ => by
 by_cases h : k < n
 ·rw [List.getD_eq_getElem?_getD, List.getElem?_replicate, if_pos h]; rfl
 ·exact getD_ge (by rw [List.length_replicate]; omega)
theorem Zero.set {L : List Nat} {n k d : Nat} (h : Zero L n) (hk : k < n) : Zero (L.set k d) n := fun j hj => by rw [getD_set_ne (by omega)]; exact h j hj
theorem Zero.set_succ {L : List Nat} {n d : Nat} (h : Zero L n) : Zero (L.set n d) (n + 1) := fun j hj => by rw [getD_set_ne (by omega)]; exact h j (by omega)
theorem Zero.down {L : List Nat} {n : Nat} (h : Zero L (n + 1)) (h0 : L.getD n 0 = 0) : Zero L n := fun k hk => by
 by_cases e : k = n
 ·rw [e]; exact h0
 ·exact h k (by omega)
theorem mval_zero_drop {L : List Nat} {n : Nat} (h : Zero L n) : mval (L.drop n) = 0 := by
 induction hm : L.length - n generalizing n with
 | zero => rw [List.drop_of_length_le (by omega)]; rfl
 | succ m ih =>
  rw [mval_drop, h n qN, ih (h.mono (by omega)) (by omega)]
theorem mval_zero_take {L : List Nat} {n : Nat} (h : Zero L n) : mval (L.take n) = mval L := by
 by_cases hn : n ≤ L.length
 ·rw [mval_take_drop L n hn, mval_zero_drop h]; omega
 ·rw [List.take_of_length_le (by omega)]
theorem Zero.lt {L : List Nat} {n : Nat} (h : Zero L n) (hd : Dig L) : mval L < 1000000000 ^ n := by
 rw [← mval_zero_take h]
 refine Nat.lt_of_lt_of_le (hd.take n).lt (Nat.pow_le_pow_right (by decide) ?_)
 rw [List.length_take]; exact Nat.min_le_left _ _
def Nrm (L : List Nat) : Prop := L.length = 0 ∨ L.getD (L.length - 1) 0 ≠ 0
theorem Nrm.ge {L : List Nat} (h : Nrm L) (h0 : 0 < L.length) : 1000000000 ^ (L.length - 1) ≤ mval L := by
 have h1 := h.resolve_left (by omega)
 have e := mval_take_succ L (L.length - 1)
 rw [show L.length - 1 + 1 = L.length by omega, List.take_length] at e
 rw [e]
 exact Nat.le_trans (Nat.le_mul_of_pos_right _ (Nat.pos_of_ne_zero h1)) (Nat.le_add_left _ _)
theorem Nrm.of_ge {L : List Nat} (hd : Dig L) (h : L.length = 0 ∨ 1000000000 ^ (L.length - 1) ≤ mval L) : Nrm L := by
 rcases h with h | h
 ·exact Or.inl h
 ·rcases Nat.eq_zero_or_pos L.length with h0 | h0
  ·exact Or.inl h0
  ·right
   intro hz
   have e := mval_take_succ L (L.length - 1)
   rw [show L.length - 1 + 1 = L.length by omega, List.take_length, hz, Nat.mul_zero, Nat.add_zero] at e
   have h1 := mval_lt (L.take (L.length - 1)) (hd.mem · <| List.mem_of_mem_take ·)
   rw [List.length_take, Nat.min_eq_left (by omega)] at h1
   omega
theorem Nrm.snoc (L : List Nat) {d : Nat} (h : d ≠ 0) : Nrm (L ++ [d]) := by
 right
 rw [List.length_append, List.length_singleton, Nat.add_sub_cancel, List.getD_eq_getElem?_getD, List.getElem?_append_right qN, Nat.sub_self]
 exact h
theorem Nrm.zero {L : List Nat} (h : Nrm L) : mval L = 0 ↔ L.length = 0 := by
 constructor
 ·intro e
  rcases Nat.eq_zero_or_pos L.length with h0 | h0
  ·exact h0
  ·have := h.ge h0
   have := Nat.pow_pos (n := L.length - 1) (show 0 < 1000000000 by decide)
   omega
 ·intro e
  rw [List.length_eq_zero_iff.1 e]; rfl
theorem Nrm.len {L : List Nat} (h : Nrm L) {n : Nat} (hv : mval L < 1000000000 ^ n) : L.length ≤ n := by
 rcases Nat.eq_zero_or_pos L.length with h0 | h0
 ·omega
 ·have h1 := h.ge h0
  have h2 := (Nat.pow_lt_pow_iff_right (show 1 < 1000000000 by decide)).1 (Nat.lt_of_le_of_lt h1 hv)
  omega
theorem Nrm.uniq : ∀ {L M : List Nat}, Dig L → Dig M → L.length = M.length → mval L = mval M → L = M
 | [], [], _, _, _, _ => rfl
 | [], _ :: _, _, _, h, _ => by simp at h
 | _ :: _, [], _, _, h, _ => by simp at h
 | x :: L, y :: M, hL, hM, h, hv => by
  have h1 : x < 1000000000 := hL 0
  have h2 : y < 1000000000 := hM 0
  simp only [mval] at hv
  have e : x = y := by omega
  rw [e, Nrm.uniq (L := L) (M := M) (fun k => hL (k + 1)) (fun k => hM (k + 1)) (by simpa using h) (by omega)]
theorem Nrm.same {L M : List Nat} (hL : Dig L) (hM : Dig M) (nL : Nrm L) (nM : Nrm M) (h : mval L = mval M) : L = M := by
 have h1 := nL.len (n := M.length) (by rw [h]; exact hM.lt)
 have h2 := nM.len (n := L.length) (by rw [← h]; exact hL.lt)
 exact Nrm.uniq hL hM (by omega) h
theorem plus_alg {P B x y z s c c' m o : Nat} (h1 : x + P * c = y + z) (h2 : s + B * c' = m + c + o) : x + P * s + P * B * c' = y + P * m + (z + P * o) := by
 have h := congrArg (P * ·) h2
 simp only [Nat.mul_add] at h
 have e1 : P * B * c' = P * (B * c') := by simp only [Nat.mul_assoc]
 omega
theorem minus_alg {P B x y z s b b' m o : Nat} (h1 : x + z = y + P * b) (h2 : s + b + o = m + B * b') : x + P * s + (z + P * o) = y + P * m + P * B * b' := by
 have h := congrArg (P * ·) h2
 simp only [Nat.mul_add] at h
 have e1 : P * B * b' = P * (B * b') := by simp only [Nat.mul_assoc]
 omega
theorem times_alg {A C B x p s c c' d e X Y Z: Nat} (h1 : Y + A * C * p = x + A * C * s) (h2 : x + A * C * c = X + A * d * Z) (h3 : s + B * c' = c + (p + d * e)) : Y + A * (C * B) * c' = X + A * d * (Z + C * e) := by
 have h := congrArg (A * C * ·) h3
 simp only [Nat.mul_add] at h ⊢
 have e1 : A * (C * B) * c' = A * C * (B * c') := by simp only [Nat.mul_assoc]
 have e2 : A * d * (C * e) = A * C * (d * e) := by simp only [Nat.mul_assoc, Nat.mul_left_comm]
 omega
theorem next_alg {A A1 E E1 x c d d1 X Y Z : Nat} (h1 : Y + E * 0 = x + E * c) (h2 : x + E * c = X * Z + A * d * Z) : Y + E1 * 0 = (X + A * d) * Z + A1 * d1 * mval [] := by
 simp only [mval, Nat.mul_zero, Nat.add_zero, Nat.add_mul] at *
 omega
theorem short_alg {B R d r m M q t : Nat} (h1 : R * d + r = M) (h2 : d * q + t = r * B + m) : (q + B * R) * d + t = m + B * M := by
 subst h1
 simp only [Nat.mul_add, Nat.add_mul]
 have e1 : B * R * d = B * (R * d) := by simp only [Nat.mul_assoc]
 have e2 : q * d = d * q := Nat.mul_comm _ _
 have e3 : r * B = B * r := Nat.mul_comm _ _
 omega
structure PlusInv (m o : List Nat) (k : Nat) (L : List Nat) (c : Nat) : Prop where
 len : L.length = k
 dig : Dig L
 carry : c ≤ 1
 val : mval L + 1000000000 ^ k * c = mval (m.take k) + mval (o.take k)
theorem PlusInv.start (m o : List Nat) : PlusInv m o 0 [] 0 := ⟨rfl, Dig.nil, by decide, by simp [mval]⟩
theorem PlusInv.step {m o L : List Nat} {k c s c' : Nat} (h : PlusInv m o k L c) (hs : s < 1000000000) (hc : c' ≤ 1) (e : s + 1000000000 * c' = m.getD k 0 + c + o.getD k 0) : PlusInv m o (k + 1) (L ++ [s]) c' := by
 refine ⟨by rw [List.length_append, h.len]; rfl, h.dig.snoc hs, hc, ?_⟩
 have hv := h.val
 rw [mval_snoc, h.len, mval_take_succ, mval_take_succ, Nat.pow_succ]
 exact plus_alg hv e
theorem PlusInv.done {m o L : List Nat} {c : Nat} (h : PlusInv m o m.length L c) (ho : o.length ≤ m.length) : mval L + 1000000000 ^ m.length * c = mval m + mval o := by
 have := h.val
 rwa [List.take_of_length_le qN, List.take_of_length_le ho] at this
structure MinusInv (m o : List Nat) (k : Nat) (R : List Nat) (b : Nat) : Prop where
 len : R.length = m.length
 dig : Dig R
 carry : b ≤ 1
 val : mval (R.take k) + mval (o.take k) = mval (m.take k) + 1000000000 ^ k * b
theorem MinusInv.start (m o : List Nat) : MinusInv m o 0 (List.replicate m.length 0) 0 := ⟨by simp, Dig.zeros _, by decide, by simp [mval]⟩
theorem MinusInv.step {m o R : List Nat} {k b s b' : Nat} (h : MinusInv m o k R b) (hk : k < m.length) (hs : s < 1000000000) (hb : b' ≤ 1) (e : s + b + o.getD k 0 = m.getD k 0 + 1000000000 * b') : MinusInv m o (k + 1) (R.set k s) b' := by
 refine ⟨by rw [List.length_set, h.len], h.dig.set hs _, hb, ?_⟩
 have hv := h.val
 rw [mval_take_set (by rw [h.len]; exact hk), mval_take_succ, mval_take_succ, Nat.pow_succ]
 exact minus_alg hv e
theorem MinusInv.done {m o R : List Nat} {b : Nat} (h : MinusInv m o m.length R b) (ho : o.length ≤ m.length) (hle : mval o ≤ mval m) : mval R = mval m - mval o := by
 have hv := h.val
 rw [List.take_of_length_le qN, List.take_of_length_le ho, List.take_of_length_le (by rw [h.len]; exact Nat.le_refl _)] at hv
 have h1 := h.dig.lt
 rw [h.len] at h1
 have h2 := h.carry
 rcases (show b = 0 ∨ b = 1 by omega) with rfl | rfl
 ·omega
 ·omega
structure TimesInv (m o : List Nat) (i j : Nat) (P : List Nat) (c : Nat) : Prop where
 len : P.length = m.length + o.length
 dig : Dig P
 carry : c < 1000000000
 zero : Zero P (i + o.length)
 val : mval P + 1000000000 ^ (i + j) * c = mval (m.take i) * mval o + 1000000000 ^ i * m.getD i 0 * mval (o.take j)
theorem TimesInv.start (m o : List Nat) : TimesInv m o 0 0 (List.replicate (m.length + o.length) 0) 0 := ⟨by simp, Dig.zeros _, by decide, Zero.zeros _ _, by simp [mval, mval_zeros]⟩
theorem TimesInv.step {m o P : List Nat} {i j c s c' : Nat} (h : TimesInv m o i j P c) (hi : i < m.length) (hj : j < o.length) (hs : s < 1000000000) (hc : c' < 1000000000) (e : s + 1000000000 * c' = c + (P.getD (i + j) 0 + m.getD i 0 * o.getD j 0)) : TimesInv m o i (j + 1) (P.set (i + j) s) c' := by
 refine ⟨by rw [List.length_set, h.len], h.dig.set hs _, hc, h.zero.set (by omega), ?_⟩
 have hv := h.val
 have hs := mval_set' (L := P) (k := i + j) (d := s) (by rw [h.len]; omega)
 rw [mval_take_succ, Nat.pow_add, Nat.pow_succ]
 rw [Nat.pow_add] at hs hv
 exact times_alg hs hv e
theorem TimesInv.next {m o P : List Nat} {i c : Nat} (h : TimesInv m o i o.length P c) (hi : i < m.length) : TimesInv m o (i + 1) 0 (P.set (i + o.length) c) 0 := by
 refine ⟨by rw [List.length_set, h.len], h.dig.set h.carry _, by decide, ?_, ?_⟩
 ·have := h.zero.set_succ (d := c)
  rwa [show i + o.length + 1 = i + 1 + o.length by omega] at this
 have hv := h.val
 have hs := mval_set' (L := P) (k := i + o.length) (d := c) (by rw [h.len]; omega)
 rw [h.zero _ qN] at hs
 rw [List.take_of_length_le qN] at hv
 rw [mval_take_succ, List.take_zero]
 exact next_alg hs hv
theorem TimesInv.done {m o P : List Nat} {c : Nat} (h : TimesInv m o m.length 0 P c) (hc : c = 0) : mval P = mval m * mval o := by
 have hv := h.val
 subst hc
 rw [List.take_of_length_le qN] at hv
 simpa [mval] using hv
theorem times_carry {c p d e : Nat} (hc : c < 1000000000) (hp : p < 1000000000) (hd : d < 1000000000) (he : e < 1000000000) : c + (p + d * e) < 1000000000000000000 := by
 have : d * e ≤ 999999999 * 999999999 := Nat.mul_le_mul (by omega) (by omega)
 omega
structure ShortInv (m : List Nat) (d k : Nat) (R : List Nat) (r : Nat) : Prop where
 len : R.length = m.length
 dig : Dig R
 rest : r < d
 val : mval (R.drop k) * d + r = mval (m.drop k)
theorem ShortInv.start (m : List Nat) {d : Nat} (hd : 0 < d) : ShortInv m d m.length (List.replicate m.length 0) 0 := ⟨by simp, Dig.zeros _, hd, by rw [List.drop_of_length_le (by simp), List.drop_of_length_le (by simp)]; simp [mval]⟩
theorem ShortInv.step {m R : List Nat} {d k r : Nat} (h : ShortInv m d (k + 1) R r) (hk : k < m.length) (hm : Dig m) : ShortInv m d k (R.set k ((r * 1000000000 + m.getD k 0) / d)) ((r * 1000000000 + m.getD k 0) % d) := by
 have hd : 0 < d := by have := h.rest; omega
 have hq : (r * 1000000000 + m.getD k 0) / d < 1000000000 := by
  rw [Nat.div_lt_iff_lt_mul hd]
  have h1 := hm k
  have h2 := h.rest
  have : (r + 1) * 1000000000 ≤ d * 1000000000 := Nat.mul_le_mul_right _ (by omega)
  omega
 refine ⟨by rw [List.length_set, h.len], h.dig.set hq _, Nat.mod_lt _ hd, ?_⟩
 rw [mval_drop_set (by rw [h.len]; exact hk), mval_drop m k, ← h.val]
 have := Nat.div_add_mod (r * 1000000000 + m.getD k 0) d
 exact short_alg rfl this
theorem ShortInv.done {m R : List Nat} {d r : Nat} (h : ShortInv m d 0 R r) : mval R = mval m / d ∧ r = mval m % d := by
 have hv := h.val
 simp only [List.drop_zero] at hv
 have hr := h.rest
 rw [← hv]
 constructor
 ·rw [Nat.mul_comm, Nat.mul_add_div (by omega), Nat.div_eq_of_lt hr]; rfl
 ·rw [Nat.mul_comm, Nat.mul_add_mod, Nat.mod_eq_of_lt hr]
end Go.Proofs.YtfminfgabiipjaaGreatDoor
end
section
namespace Go.Proofs.YtfminfgabiipjaaGreatDoor
theorem pow_pos9 (n : Nat) : 0 < 1000000000 ^ n := Nat.pow_pos (by decide)
theorem sub_alg {P B R q V U b c r b' c' t d x : Nat} (h1 : R + q * V = U + P * (b + c)) (h2 : c + q * d = B * c' + t) (h3 : r + b + t = x + B * b') : R + P * r + q * (V + P * d) = U + P * x + P * B * (b' + c') := by
 have e1 := congrArg (P * ·) h2
 have e2 := congrArg (P * ·) h3
 simp only [Nat.mul_add] at *
 have e3 : q * (P * d) = P * (q * d) := Nat.mul_left_comm _ _ _
 have e4 : P * B * b' = P * (B * b') := Nat.mul_assoc _ _ _
 have e5 : P * B * c' = P * (B * c') := Nat.mul_assoc _ _ _
 omega
structure SubInv (u v : List Nat) (q k : Nat) (R : List Nat) (b c : Nat) : Prop where
 len : R.length = u.length
 dig : Dig R
 borrow : b ≤ 1
 carry : c < 1000000000
 rest : ∀ j, k ≤ j → R.getD j 0 = u.getD j 0
 val : mval (R.take k) + q * mval (v.take k) = mval (u.take k) + 1000000000 ^ k * (b + c)
theorem SubInv.start {u v : List Nat} {q : Nat} (hu : Dig u) : SubInv u v q 0 u 0 0 := ⟨rfl, hu, by decide, by decide, fun _ _ => rfl, by simp [mval]⟩
theorem SubInv.step {u v R : List Nat} {q k b c r b' c' t : Nat} (h : SubInv u v q k R b c) (hk : k < u.length) (hr : r < 1000000000) (hb : b' ≤ 1) (hc : c' < 1000000000) (h2 : c + q * v.getD k 0 = 1000000000 * c' + t) (h3 : r + b + t = u.getD k 0 + 1000000000 * b') :
  SubInv u v q (k + 1) (R.set k r) b' c' := by
 refine ⟨by rw [List.length_set, h.len], h.dig.set hr _, hb, hc, fun j hj => by rw [getD_set_ne (by omega)]; exact h.rest j (by omega), ?_⟩
 rw [mval_take_set (by rw [h.len]; exact hk), mval_take_succ, mval_take_succ, Nat.pow_succ]
 exact sub_alg h.val h2 h3
theorem sub_carry {c q d : Nat} (hc : c < 1000000000) (hq : q < 1000000000) (hd : d < 1000000000) : c + q * d < 1000000000000000000 := by
 have : q * d ≤ 999999999 * 999999999 := Nat.mul_le_mul (by omega) (by omega)
 omega
structure BackInv (u v : List Nat) (k : Nat) (R : List Nat) (c : Nat) : Prop where
 len : R.length = u.length
 dig : Dig R
 carry : c ≤ 1
 rest : ∀ j, k ≤ j → R.getD j 0 = u.getD j 0
 val : mval (R.take k) + 1000000000 ^ k * c = mval (u.take k) + mval (v.take k)
theorem BackInv.start {u v : List Nat} (hu : Dig u) : BackInv u v 0 u 0 := ⟨rfl, hu, by decide, fun _ _ => rfl, by simp [mval]⟩
theorem BackInv.step {u v R : List Nat} {k c s c' : Nat} (h : BackInv u v k R c) (hk : k < u.length) (hs : s < 1000000000) (hc : c' ≤ 1) (e : s + 1000000000 * c' = u.getD k 0 + c + v.getD k 0) : BackInv u v (k + 1) (R.set k s) c' := by
 refine ⟨by rw [List.length_set, h.len], h.dig.set hs _, hc, fun j hj => by rw [getD_set_ne (by omega)]; exact h.rest j (by omega), ?_⟩
 rw [mval_take_set (by rw [h.len]; exact hk), mval_take_succ, mval_take_succ, Nat.pow_succ]
 exact plus_alg h.val e
structure Reduced (u v : List Nat) (R : List Nat) (q : Nat) : Prop where
 len : R.length = u.length
 dig : Dig R
 quot : q = mval u / mval v
 val : mval R = mval u % mval v
 top : Zero R v.length
theorem reduced_end {u v R : List Nat} {n : Nat} (hl : u.length = n + 1) (hvl : v.length = n) (hR : R.length = u.length) (hd : Dig R) {q : Nat} (_hv : 0 < mval v) (hval : mval (R.take n) = mval u - q * mval v) (hle : q * mval v ≤ mval u) (hlt : mval u < (q + 1) * mval v) :
  Reduced u v (R.set n 0) q := by
 have hq : q = mval u / mval v := ((Nat.div_eq_of_lt_le hle hlt)).symm
 have h1 : mval (R.set n 0) = mval (R.take n) := by
  have := mval_take_set (L := R) (k := n) (d := 0) (by omega)
  rwa [List.take_of_length_le (by rw [List.length_set]; omega), Nat.mul_zero, Nat.add_zero] at this
 refine ⟨by rw [List.length_set, hR], hd.set (by decide) _, hq, ?_, ?_⟩
 ·rw [h1, hval, hq, Nat.mul_comm, Nat.sub_eq_of_eq_add]
  exact (Nat.mod_add_div _ _).symm
 ·intro j hj
  by_cases e : j = n
  ·rw [e, getD_set_eq (by omega)]
  ·exact getD_ge (by rw [List.length_set]; omega)
theorem reduced_right {u v R : List Nat} {n q b c : Nat} (h : SubInv u v q n R b c) (hl : u.length = n + 1) (hvl : v.length = n) (hd : Dig v) (hv : 0 < mval v) (hq : mval u / mval v ≤ q) (hno : ¬ u.getD n 0 < b + c) : Reduced u v (R.set n 0) q := by
 have hval := h.val
 have e : mval u = mval (u.take n) + 1000000000 ^ n * u.getD n 0 := by
  have := mval_take_succ u n
  rwa [List.take_of_length_le (by omega)] at this
 rw [List.take_of_length_le (l := v) (by omega)] at hval
 have hRt := (h.dig.take n).lt
 rw [List.length_take, Nat.min_eq_left (by rw [h.len]; omega)] at hRt
 have hvt := hd.lt
 rw [hvl] at hvt
 have h2 : mval u < (q + 1) * mval v := by
  have := (Nat.div_lt_iff_lt_mul hv).1 (Nat.lt_succ_of_le hq)
  exact this
 obtain ⟨s, hs⟩ : ∃ s, u.getD n 0 = b + c + s := ⟨u.getD n 0 - (b + c), by omega⟩
 rw [hs, Nat.mul_add] at e
 have hle : q * mval v ≤ mval u := by omega
 have hs0 : s = 0 := by
  rcases Nat.eq_zero_or_pos s with h0 | h0
  ·exact h0
  ·have : 1000000000 ^ n * 1 ≤ 1000000000 ^ n * s := Nat.mul_le_mul_left _ h0
   rw [Nat.add_mul, Nat.one_mul] at h2
   omega
 subst hs0
 exact reduced_end hl hvl h.len h.dig hv (by omega) hle h2
theorem reduced_back {u v R S : List Nat} {n q b c o : Nat} (h : SubInv u v q n R b c) (k : BackInv R v n S o) (hl : u.length = n + 1) (hvl : v.length = n) (hd : Dig v) (hv : 0 < mval v) (hq : q ≤ mval u / mval v + 1) (hlt : u.getD n 0 < b + c) : Reduced u v (S.set n 0) (q - 1) := by
 have hval := h.val
 have hval2 := k.val
 have e : mval u = mval (u.take n) + 1000000000 ^ n * u.getD n 0 := by
  have := mval_take_succ u n
  rwa [List.take_of_length_le (by omega)] at this
 rw [List.take_of_length_le (l := v) (by omega)] at hval hval2
 have hRt := (h.dig.take n).lt
 have hSt := (k.dig.take n).lt
 have hvt := hd.lt
 rw [hvl] at hvt
 rw [List.length_take, Nat.min_eq_left (by rw [h.len]; omega)] at hRt
 rw [List.length_take, Nat.min_eq_left (by rw [k.len, h.len]; omega)] at hSt
 obtain ⟨s, hs⟩ : ∃ s, b + c = u.getD n 0 + 1 + s := ⟨b + c - (u.getD n 0 + 1), by omega⟩
 rw [hs, Nat.mul_add, Nat.mul_add] at hval
 have hgt : mval u < q * mval v := by omega
 have hq0 : 0 < q := by
  rcases Nat.eq_zero_or_pos q with h0 | h0
  ·subst h0; omega
  ·exact h0
 obtain ⟨p, rfl⟩ : ∃ p, q = p + 1 := ⟨q - 1, by omega⟩
 have hle : p * mval v ≤ mval u := (Nat.le_div_iff_mul_le hv).1 (by omega)
 have e2 : (p + 1) * mval v = p * mval v + mval v := by rw [Nat.add_mul, Nat.one_mul]
 have h3 := k.carry
 have ho : mval (S.take n) = mval u - p * mval v := by
  rcases (show o = 0 ∨ o = 1 by omega) with rfl | rfl
  ·rcases Nat.eq_zero_or_pos s with h0 | h0
   ·subst h0; omega
   ·have : 1000000000 ^ n * 1 ≤ 1000000000 ^ n * s := Nat.mul_le_mul_left _ h0
    omega
  ·rcases Nat.eq_zero_or_pos s with h0 | h0
   ·subst h0; omega
   ·have : 1000000000 ^ n * 1 ≤ 1000000000 ^ n * s := Nat.mul_le_mul_left _ h0
    omega
 rw [Nat.add_sub_cancel]
 exact reduced_end hl hvl (by rw [k.len, h.len]) k.dig hv ho hle hgt
theorem div_alg {P V B Q q W R U : Nat} (h1 : Q * (P * B) * V + U = W) (h2 : P * (q * V) + R = U) : (q + B * Q) * P * V + R = W := by
 subst h1 h2
 have e1 : Q * (P * B) * V = B * Q * P * V := by simp only [Nat.mul_comm, Nat.mul_left_comm]
 have e2 : P * (q * V) = q * P * V := by simp only [Nat.mul_assoc, Nat.mul_left_comm]
 rw [Nat.add_mul, Nat.add_mul, e1, e2]; omega
structure DivInv (w v : List Nat) (k : Nat) (q u : List Nat) : Prop where
 lenu : u.length = w.length
 lenq : q.length = w.length - v.length
 digu : Dig u
 digq : Dig q
 zero : Zero u (k + v.length)
 val : mval (q.drop k) * 1000000000 ^ k * mval v + mval u = mval w
 small : mval u < 1000000000 ^ k * mval v
theorem DivInv.start {w v : List Nat} (hw : Dig w) (hz : mval w < 1000000000 ^ (w.length - v.length) * mval v) (hl : v.length ≤ w.length) : DivInv w v (w.length - v.length) (List.replicate (w.length - v.length) 0) w :=
 ⟨rfl, by simp, hw, Dig.zeros _, by rw [Nat.sub_add_cancel hl]; exact Zero.all w, by rw [List.drop_of_length_le (by simp)]; simp [mval], hz⟩
theorem part_val {u : List Nat} {k n : Nat} (hk : k + n ≤ u.length) (hz : Zero u (k + n)) : mval u = mval (u.take k) + 1000000000 ^ k * mval ((u.drop k).take n) := by
 rw [← mval_zero_take hz, List.take_add, mval_append, List.length_take, Nat.min_eq_left (by omega)]
theorem DivInv.part {w v q u : List Nat} {k : Nat} (h : DivInv w v (k + 1) q u) (hk : k + 1 + v.length ≤ w.length) : mval ((u.drop k).take (v.length + 1)) < 1000000000 * mval v ∧ ((u.drop k).take (v.length + 1)).length = v.length + 1 ∧ Dig ((u.drop k).take (v.length + 1)) := by
 have hl := h.lenu
 refine ⟨?_, by rw [List.length_take, List.length_drop]; omega, (h.digu.drop _).take _⟩
 have h1 := h.small
 have h2 := part_val (u := u) (k := k) (n := v.length + 1) (by omega) (by have := h.zero; rwa [show k + 1 + v.length = k + (v.length + 1) by omega] at this)
 rw [Nat.pow_succ, Nat.mul_assoc] at h1
 exact Nat.lt_of_mul_lt_mul_left (a := 1000000000 ^ k) (by omega)
theorem DivInv.step {w v q u R : List Nat} {k x : Nat} (h : DivInv w v (k + 1) q u) (hk : k + 1 + v.length ≤ w.length) (hv : 0 < mval v) (hr : Reduced ((u.drop k).take (v.length + 1)) v R x) :
  DivInv w v k (q.set k x) (u.take k ++ R ++ u.drop (k + (v.length + 1))) := by
 have hl := h.lenu
 have hlq := h.lenq
 obtain ⟨p1, p2, p3⟩ := h.part hk
 have hRl := hr.len
 rw [p2] at hRl
 have hx : x < 1000000000 := by
  rw [hr.quot, Nat.div_lt_iff_lt_mul hv]; exact p1
 have hRv : mval R < mval v := by rw [hr.val]; exact Nat.mod_lt _ hv
 have htk : (u.take k).length = k := by rw [List.length_take]; omega
 have hval := part_val (u := u) (k := k) (n := v.length + 1) (by omega) (by have := h.zero; rwa [show k + 1 + v.length = k + (v.length + 1) by omega] at this)
 have hz0 : mval (u.drop (k + (v.length + 1))) = 0 := mval_zero_drop (by have := h.zero; rwa [show k + 1 + v.length = k + (v.length + 1) by omega] at this)
 have hnew : mval (u.take k ++ R ++ u.drop (k + (v.length + 1))) = mval (u.take k) + 1000000000 ^ k * mval R := by
  rw [mval_append, mval_append, hz0, htk]; omega
 have hdig : Dig (u.take k ++ R ++ u.drop (k + (v.length + 1))) := ((h.digu.take _).append hr.dig).append (h.digu.drop _)
 have hut := (h.digu.take k).lt
 rw [htk] at hut
 have hsm : mval (u.take k ++ R ++ u.drop (k + (v.length + 1))) < 1000000000 ^ k * mval v := by
  rw [hnew]
  have : 1000000000 ^ k * (mval R + 1) ≤ 1000000000 ^ k * mval v := Nat.mul_le_mul_left _ hRv
  rw [Nat.mul_add] at this
  omega
 have hlen : (u.take k ++ R ++ u.drop (k + (v.length + 1))).length = w.length := by
  rw [List.length_append, List.length_append, htk, hRl, List.length_drop]; omega
 refine ⟨hlen, by rw [List.length_set, hlq], hdig, h.digq.set hx _, ?_, ?_, hsm⟩
 ·intro j hj
  have hz := h.zero
  rw [List.getD_eq_getElem?_getD, List.getElem?_append]
  split
  ·rename_i h1
   rw [List.getElem?_append_right (by omega), ← List.getD_eq_getElem?_getD]
   exact hr.top _ (by omega)
  ·rename_i h1
   rw [List.length_append, htk, hRl] at h1
   rw [List.length_append, htk, hRl, List.getElem?_drop, ← List.getD_eq_getElem?_getD]
   exact hz _ (by omega)
 ·rw [mval_drop_set (by rw [hlq]; omega), hnew]
  have hv1 := h.val
  rw [Nat.pow_succ, hval] at hv1
  have hdm := Nat.div_add_mod (mval ((u.drop k).take (v.length + 1))) (mval v)
  rw [← hr.quot, ← hr.val] at hdm
  refine div_alg hv1 ?_
  rw [← hdm, Nat.mul_add, Nat.mul_comm x]
  omega
end Go.Proofs.YtfminfgabiipjaaGreatDoor
end
