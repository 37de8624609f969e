/- Rk, part 3: Txt -/
import Derived.Lib.ItoaNum
import Derived.Test.YtfminfgabiipjaaGreatDoorRk0
import Derived.Test.YtfminfgabiipjaaGreatDoorRk2
section
namespace Go.Proofs.YtfminfgabiipjaaGreatDoor
open Go.Lib
theorem head_app {t l : List UInt8} (h : t ≠ []) : (t ++ l).head? = t.head? := by
 cases t with
 | nil => exact absurd rfl h
 | cons => rfl
def dval (s : List UInt8) : Nat := s.foldl (fun v c => v * 10 + (c.toNat - 48)) 0
theorem dval_snoc (s : List UInt8) (c : UInt8) : dval (s ++ [c]) = dval s * 10 + (c.toNat - 48) := by
 unfold dval; rw [List.foldl_append]; rfl
def Nums (s : List UInt8) : Prop := ∀ c ∈ s, 48 ≤ c.toNat ∧ c.toNat ≤ 57
theorem Nums.take {s : List UInt8} (h : Nums s) (n : Nat) : Nums (s.take n) := fun c hc => h c (List.mem_of_mem_take hc)
theorem dval_lt : ∀ (n : Nat) (s : List UInt8), s.length = n → Nums s → dval s < 10 ^ n
 | 0, s, h, _ => by rw [List.length_eq_zero_iff.1 h]; decide
 | n + 1, s, h, hn => by
  obtain ⟨t, c, rfl⟩ : ∃ t c, s = t ++ [c] := ⟨s.dropLast, s.getLast (by intro e; rw [e] at h; simp at h), (List.dropLast_concat_getLast _).symm⟩
  have h1 := dval_lt n t (by simpa using h) (fun c hc => hn c (List.mem_append_left _ hc))
  have h2 := hn c (by simp)
  rw [dval_snoc, Nat.pow_succ]; omega
theorem getElem_take_snoc (s : List UInt8) (k : Nat) (h : k < s.length) : s.take (k + 1) = s.take k ++ [s[k]] := by
 rw [List.take_add_one, List.getElem?_eq_getElem h]; rfl
theorem dval_take (s : List UInt8) (k : Nat) (h : k < s.length) : dval (s.take (k + 1)) = dval (s.take k) * 10 + (s[k].toNat - 48) := by
 rw [getElem_take_snoc s k h, dval_snoc]
def Plainly (s : List UInt8) : Prop := s ≠ [] ∧ Nums s ∧ (s.head? = some 48 → s.length = 1)
theorem decDigits_small {u : Nat} (h : u < 10) : decDigits u = [UInt8.ofNat (48 + u)] := by rw [decDigits, dif_pos h]
theorem decDigits_big {u : Nat} (h : 10 ≤ u) : decDigits u = decDigits (u / 10) ++ [UInt8.ofNat (48 + u % 10)] := by rw [decDigits, dif_neg (by omega)]
theorem toNat_ofNat48 {u : Nat} (h : u < 10) : (UInt8.ofNat (48 + u)).toNat = 48 + u := by
 rw [UInt8.toNat_ofNat']; exact Nat.mod_eq_of_lt (by omega)
theorem decDigits_ne (u : Nat) : decDigits u ≠ [] := by
 rcases Nat.lt_or_ge u 10 with h | h
 ·rw [decDigits_small h]; simp
 ·rw [decDigits_big h]; simp
theorem decDigits_nums : ∀ u : Nat, Nums (decDigits u) := by
 intro u
 induction u using Nat.strongRecOn with
 | ind u ih =>
  rcases Nat.lt_or_ge u 10 with h | h
  ·rw [decDigits_small h]
   intro c hc
   rw [List.mem_singleton.1 hc, toNat_ofNat48 h]; omega
  ·rw [decDigits_big h]
   intro c hc
   rcases List.mem_append.1 hc with hc | hc
   ·exact ih (u / 10) (by omega) c hc
   ·rw [List.mem_singleton.1 hc, toNat_ofNat48 (by omega)]; omega
theorem dval_decDigits : ∀ u : Nat, dval (decDigits u) = u := by
 intro u
 induction u using Nat.strongRecOn with
 | ind u ih =>
  rcases Nat.lt_or_ge u 10 with h | h
  ·rw [decDigits_small h]
   show 0 * 10 + ((UInt8.ofNat (48 + u)).toNat - 48) = u
   rw [toNat_ofNat48 h]; omega
  ·rw [decDigits_big h, dval_snoc, ih (u / 10) (by omega), toNat_ofNat48 (by omega)]; omega
theorem decDigits_head : ∀ u : Nat, (decDigits u).head? = some 48 → u = 0 := by
 intro u
 induction u using Nat.strongRecOn with
 | ind u ih =>
  rcases Nat.lt_or_ge u 10 with h | h
  ·rw [decDigits_small h]
   intro hh
   have h1 : UInt8.ofNat (48 + u) = 48 := Option.some.inj hh
   have h2 := toNat_ofNat48 h
   rw [h1] at h2
   have : (48 : UInt8).toNat = 48 := rfl
   omega
  ·rw [decDigits_big h]
   intro hh
   rw [head_app (decDigits_ne _)] at hh
   have := ih (u / 10) (by omega) hh
   omega
theorem uint8_eq {a b : UInt8} (h : a.toNat = b.toNat) : a = b := UInt8.toNat_inj.1 h
theorem plainly_eq : ∀ (s : List UInt8), Plainly s → s = decDigits (dval s) := by
 intro s
 induction hn : s.length using Nat.strongRecOn generalizing s with
 | ind n ih =>
  intro ⟨h0, h1, h2⟩
  obtain ⟨t, c, rfl⟩ : ∃ t c, s = t ++ [c] := ⟨s.dropLast, s.getLast h0, (List.dropLast_concat_getLast _).symm⟩
  have hc := h1 c (by simp)
  have hcv : UInt8.ofNat (48 + (c.toNat - 48)) = c := uint8_eq (by rw [toNat_ofNat48 (by omega)]; omega)
  by_cases ht : t = []
  ·subst ht
   rw [dval_snoc]
   show [c] = decDigits (0 * 10 + (c.toNat - 48))
   rw [Nat.zero_mul, Nat.zero_add, decDigits_small (by omega), hcv]
  ·have hpt : Plainly t := ⟨ht, fun c hc => h1 c (List.mem_append_left _ hc), fun hh => by
    have := h2 (by rw [head_app ht]; exact hh)
    rw [List.length_append, List.length_singleton] at this
    have := List.length_pos_iff.2 ht
    omega⟩
   have hih := ih t.length (by rw [← hn]; simp) t rfl hpt
   have hpos : 0 < dval t := by
    rcases Nat.eq_zero_or_pos (dval t) with h | h
    ·exfalso
     rw [h, decDigits_small (by omega)] at hih
     have := h2 (by rw [hih]; rfl)
     rw [hih] at this
     simp at this
    ·exact h
   rw [dval_snoc, decDigits_big (by omega), show (dval t * 10 + (c.toNat - 48)) / 10 = dval t by omega, show (dval t * 10 + (c.toNat - 48)) % 10 = c.toNat - 48 by omega, ← hih, hcv]
theorem decDigits_len_le : ∀ (k u : Nat), 0 < k → u < 10 ^ k → (decDigits u).length ≤ k
 | 1, u, _, h => by rw [decDigits_small (by simpa using h)]; simp
 | k + 2, u, _, h => by
  rcases Nat.lt_or_ge u 10 with h1 | h1
  ·rw [decDigits_small h1]; simp
  ·rw [decDigits_big h1, List.length_append, List.length_singleton]
   have := decDigits_len_le (k + 1) (u / 10) (by omega) (by rw [Nat.pow_succ] at h; omega)
   omega
def padk : Nat → Nat → List UInt8
 | 0, _ => []
 | k + 1, d => padk k (d / 10) ++ [UInt8.ofNat (48 + d % 10)]
theorem padk_zeros : ∀ (k : Nat), padk k 0 = List.replicate k 48
 | 0 => rfl
 | k + 1 => by rw [padk, Nat.zero_div, padk_zeros k]; exact (List.replicate_succ').symm
theorem padk_eq : ∀ (k d : Nat), 0 < k → d < 10 ^ k → padk k d = List.replicate (k - (decDigits d).length) 48 ++ decDigits d
 | 1, d, _, h => by
  have h1 : d < 10 := by simpa using h
  rw [decDigits_small h1, padk, Nat.mod_eq_of_lt h1]; rfl
 | k + 2, d, _, h => by
  rw [padk]
  rcases Nat.lt_or_ge d 10 with h1 | h1
  ·rw [decDigits_small h1, Nat.div_eq_of_lt h1, padk_zeros, Nat.mod_eq_of_lt h1]; rfl
  ·rw [padk_eq (k + 1) (d / 10) (by omega) (by rw [Nat.pow_succ] at h; omega), decDigits_big h1, List.length_append, List.length_singleton, ← List.append_assoc]
   congr 3
   omega
theorem decDigits_pad : ∀ (k a d : Nat), 0 < a → d < 10 ^ k → decDigits (a * 10 ^ k + d) = decDigits a ++ padk k d
 | 0, a, d, _, h => by
  have : d = 0 := by simpa using h
  subst this; simp [padk]
 | k + 1, a, d, ha, h => by
  have hp := Nat.pow_pos (n := k) (show 0 < 10 by decide)
  have h1 : 1 * 10 ^ k ≤ a * 10 ^ k := Nat.mul_le_mul_right _ ha
  have e : a * 10 ^ (k + 1) = a * 10 ^ k * 10 := by rw [Nat.pow_succ, Nat.mul_assoc]
  rw [decDigits_big (by omega), e, show (a * 10 ^ k * 10 + d) / 10 = a * 10 ^ k + d / 10 by omega, show (a * 10 ^ k * 10 + d) % 10 = d % 10 by omega,
   decDigits_pad k a (d / 10) ha (by rw [Nat.pow_succ] at h; omega), padk, List.append_assoc]
theorem ten9 : (10 : Nat) ^ 9 = 1000000000 := by decide
theorem padk_len : ∀ k d : Nat, (padk k d).length = k
 | 0, _ => rfl
 | k + 1, d => by rw [padk, List.length_append, padk_len k]; rfl
theorem pow9 (k : Nat) : (1000000000 : Nat) ^ k = 10 ^ (9 * k) := by
 rw [Nat.pow_mul]
theorem top_num {L : List Nat} {n : Nat} (hd : Dig L) (hl : L.length = n + 1) (h0 : L.getD n 0 ≠ 0) : (decDigits (mval L)).length = n * 9 + (decDigits (L.getD n 0)).length := by
 have e := mval_take_succ L n
 rw [← hl, List.take_length] at e
 have h1 := (hd.take n).lt
 rw [List.length_take, hl, Nat.min_eq_left (by omega), pow9] at h1
 rw [e, pow9, Nat.add_comm, Nat.mul_comm (10 ^ (9 * n)), decDigits_pad _ _ _ (Nat.pos_of_ne_zero h0) h1, List.length_append, padk_len]
 omega
theorem drop_num {L : List Nat} {j : Nat} (hd : Dig L) (h0 : 0 < mval (L.drop (j + 1))) : decDigits (mval (L.drop j)) = decDigits (mval (L.drop (j + 1))) ++ (List.replicate (9 - (decDigits (L.getD j 0)).length) 48 ++ decDigits (L.getD j 0)) := by
 have h1 : L.getD j 0 < 10 ^ 9 := by rw [ten9]; exact hd j
 rw [mval_drop L j, Nat.add_comm, Nat.mul_comm, ← ten9, decDigits_pad 9 _ _ h0 h1, padk_eq 9 _ (by decide) h1]
theorem ten8 : (10 : Nat) ^ 8 = 100000000 := by decide
theorem below9 {v m : Nat} (h : v < 10 ^ m) (hm : m ≤ 9) : v < 1000000000 := by
 rw [← ten9]; exact Nat.lt_of_lt_of_le h (Nat.pow_le_pow_right (by decide) hm)
theorem below8 {v m : Nat} (h : v < 10 ^ m) (hm : m ≤ 8) : v < 100000000 := by
 rw [← ten8]; exact Nat.lt_of_lt_of_le h (Nat.pow_le_pow_right (by decide) hm)
theorem gather_inner {D Dst Di v d m : Nat} (h : v < 10 ^ m ∧ Di = Dst * 10 ^ m + v) (hD : D = Di * 10 + d) (hd : d ≤ 9) : v * 10 + d < 10 ^ (m + 1) ∧ D = Dst * 10 ^ (m + 1) + (v * 10 + d) := by
 obtain ⟨h1, h2⟩ := h
 rw [hD, h2, Nat.pow_succ]
 refine ⟨by omega, ?_⟩
 rw [Nat.add_mul, Nat.mul_assoc]; omega
theorem gather_alg {P B D E m v : Nat} (h : D * E = D * B) : m + P * v + P * B * D = m + (P * (D * E) + P * v) := by
 rw [h, Nat.mul_assoc, Nat.mul_comm D B]; omega
theorem gather_step {L : List UInt8} {S : List Nat} {st i k v : Nat} (hSl : S.length = k) (h : mval S + 1000000000 ^ k * dval (L.take i) = dval L) (hv : dval (L.take i) = dval (L.take st) * 10 ^ (i - st) + v) (hc : (st = 0 ∧ i ≤ 9) ∨ st + 9 = i) :
  mval (S ++ [v]) + 1000000000 ^ (k + 1) * dval (L.take st) = dval L := by
 rw [hv, Nat.mul_add] at h
 rw [mval_snoc, hSl, Nat.pow_succ, ← h]
 refine gather_alg ?_
 rcases hc with ⟨h2, _⟩ | h2
 ·subst h2
  have e : dval (L.take 0) = 0 := rfl
  rw [e, Nat.zero_mul, Nat.zero_mul]
 ·have e : i - st = 9 := by omega
  rw [e, ten9]
end Go.Proofs.YtfminfgabiipjaaGreatDoor
end
