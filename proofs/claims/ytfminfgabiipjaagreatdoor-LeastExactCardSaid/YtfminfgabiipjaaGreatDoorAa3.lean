/- Aa, part 3: Txt -/
import Derived.Lib.ItoaNum
import Derived.Test.YtfminfgabiipjaaGreatDoorAa0
import Derived.Test.YtfminfgabiipjaaGreatDoorAa2
set_option maxRecDepth 100000
set_option maxHeartbeats 16000000
namespace Go.Proofs.YtfminfgabiipjaaGreatDoor
open Go.Lib
theorem qjp {t l : List UInt8} (h : t ≠ []) : (t ++ l).head? = t.head? := by
 cases t with
 | nil => exact absurd rfl h
 | cons => rfl
def dval (s : List UInt8) : Nat := s.foldl (fun v c => v * 10 + (c.toNat - 48)) 0
theorem qeF (s : List UInt8) (c : UInt8) : dval (s ++ [c]) = dval s * 10 + (c.toNat - 48) := by
 unfold dval; rw [List.foldl_append]; rfl
def Nums (s : List UInt8) : Prop := ∀ c ∈ s, 48 ≤ c.toNat ∧ c.toNat ≤ 57
theorem Nums.take {s : List UInt8} (h : Nums s) (n : Nat) : Nums (s.take n) := fun c hc => h c (qbv hc)
theorem qiQ : ∀ (n : Nat) (s : List UInt8), s.length = n → Nums s → dval s < 10 ^ n
 | 0, s, h, _ => by rw [qa9.1 h]; decide
 | n + 1, s, h, hn => by
  obtain ⟨t, c, rfl⟩ : ∃ t c, s = t ++ [c] := ⟨s.dropLast, s.getLast (by intro e; rw [e] at h; simp at h), (List.dropLast_concat_getLast _).symm⟩
  have h1 := qiQ n t (by simpa using h) (fun c hc => hn c (List.mem_append_left _ hc))
  have h2 := hn c (by simp)
  rw [qeF, qaH]; omega
theorem qd9 (s : List UInt8) (k : Nat) (h : k < s.length) : s.take (k + 1) = s.take k ++ [s[k]] := by
 rw [List.take_add_one, qai h]; rfl
theorem qeG (s : List UInt8) (k : Nat) (h : k < s.length) : dval (s.take (k + 1)) = dval (s.take k) * 10 + (s[k].toNat - 48) := by
 rw [qd9 s k h, qeF]
def qiI (s : List UInt8) : Prop := s ≠ [] ∧ Nums s ∧ (s.head? = some 48 → s.length = 1)
theorem qb8 {u : Nat} (h : u < 10) : decDigits u = [UInt8.ofNat (48 + u)] := by rw [decDigits, dif_pos h]
theorem qcG {u : Nat} (h : 10 ≤ u) : decDigits u = decDigits (u / 10) ++ [UInt8.ofNat (48 + u % 10)] := by rw [decDigits, dif_neg (by omega)]
theorem qcB {u : Nat} (h : u < 10) : (UInt8.ofNat (48 + u)).toNat = 48 + u := by
 rw [UInt8.toNat_ofNat']; exact qbx (by omega)
theorem qdU (u : Nat) : decDigits u ≠ [] := by
 rcases qbk u 10 with h | h
 ·rw [qb8 h]; simp
 ·rw [qcG h]; simp
theorem qe2 : ∀ u : Nat, Nums (decDigits u) := by
 intro u
 induction u using Nat.strongRecOn with
 | ind u ih =>
  rcases qbk u 10 with h | h
  ·rw [qb8 h]
   intro c hc
   rw [qar.1 hc, qcB h]; omega
  ·rw [qcG h]
   intro c hc
   rcases qa4.1 hc with hc | hc
   ·exact ih (u / 10) (by omega) c hc
   ·rw [qar.1 hc, qcB (by omega)]; omega
theorem qg8 : ∀ u : Nat, dval (decDigits u) = u := by
 intro u
 induction u using Nat.strongRecOn with
 | ind u ih =>
  rcases qbk u 10 with h | h
  ·rw [qb8 h]
   show 0 * 10 + ((UInt8.ofNat (48 + u)).toNat - 48) = u
   rw [qcB h]; omega
  ·rw [qcG h, qeF, ih (u / 10) (by omega), qcB (by omega)]; omega
theorem qe1 : ∀ u : Nat, (decDigits u).head? = some 48 → u = 0 := by
 intro u
 induction u using Nat.strongRecOn with
 | ind u ih =>
  rcases qbk u 10 with h | h
  ·rw [qb8 h]
   intro hh
   have h1 : UInt8.ofNat (48 + u) = 48 := qap hh
   have h2 := qcB h
   rw [h1] at h2
   have : (48 : UInt8).toNat = 48 := rfl
   omega
  ·rw [qcG h]
   intro hh
   rw [qjp (qdU _)] at hh
   have := ih (u / 10) (by omega) hh
   omega
theorem qfG {a b : UInt8} (h : a.toNat = b.toNat) : a = b := UInt8.toNat_inj.1 h
theorem qkg : ∀ (s : List UInt8), qiI s → s = decDigits (dval s) := by
 intro s
 induction hn : s.length using Nat.strongRecOn generalizing s with
 | ind n ih =>
  intro ⟨h0, h1, h2⟩
  obtain ⟨t, c, rfl⟩ : ∃ t c, s = t ++ [c] := ⟨s.dropLast, s.getLast h0, (List.dropLast_concat_getLast _).symm⟩
  have hc := h1 c (by simp)
  have hcv : UInt8.ofNat (48 + (c.toNat - 48)) = c := qfG (by rw [qcB (by omega)]; omega)
  by_cases ht : t = []
  ·subst ht
   rw [qeF]
   show [c] = decDigits (0 * 10 + (c.toNat - 48))
   rw [Nat.zero_mul, qaK, qb8 (by omega), hcv]
  ·have hpt : qiI t := ⟨ht, fun c hc => h1 c (List.mem_append_left _ hc), fun hh => by
    have := h2 (by rw [qjp ht]; exact hh)
    rw [qaj, qaJ] at this
    have := List.length_pos_iff.2 ht
    omega⟩
   have hih := ih t.length (by rw [← hn]; simp) t rfl hpt
   have hpos : 0 < dval t := by
    rcases qaE (dval t) with h | h
    ·exfalso
     rw [h, qb8 (by omega)] at hih
     have := h2 (by rw [hih]; rfl)
     rw [hih] at this
     simp at this
    ·exact h
   rw [qeF, qcG (by omega), show (dval t * 10 + (c.toNat - 48)) / 10 = dval t by omega, show (dval t * 10 + (c.toNat - 48)) % 10 = c.toNat - 48 by omega, ← hih, hcv]
theorem qcg : ∀ (k u : Nat), 0 < k → u < 10 ^ k → (decDigits u).length ≤ k
 | 1, u, _, h => by rw [qb8 (by simpa using h)]; simp
 | k + 2, u, _, h => by
  rcases qbk u 10 with h1 | h1
  ·rw [qb8 h1]; simp
  ·rw [qcG h1, qaj, qaJ]
   have := qcg (k + 1) (u / 10) (by omega) (by rw [qaH] at h; omega)
   omega
def padk : Nat → Nat → List UInt8
 | 0, _ => []
 | k + 1, d => padk k (d / 10) ++ [UInt8.ofNat (48 + d % 10)]
theorem qfT : ∀ (k : Nat), padk k 0 = List.replicate k 48
 | 0 => rfl
 | k + 1 => by rw [padk, Nat.zero_div, qfT k]; exact (List.replicate_succ').symm
theorem qi0 : ∀ (k d : Nat), 0 < k → d < 10 ^ k → padk k d = List.replicate (k - (decDigits d).length) 48 ++ decDigits d
 | 1, d, _, h => by
  have h1 : d < 10 := by simpa using h
  rw [qb8 h1, padk, qbx h1]; rfl
 | k + 2, d, _, h => by
  rw [padk]
  rcases qbk d 10 with h1 | h1
  ·rw [qb8 h1, qbS h1, qfT, qbx h1]; rfl
  ·rw [qi0 (k + 1) (d / 10) (by omega) (by rw [qaH] at h; omega), qcG h1, qaj, qaJ, ← qaT]
   congr 3
   omega
theorem qen : ∀ (k a d : Nat), 0 < a → d < 10 ^ k → decDigits (a * 10 ^ k + d) = decDigits a ++ padk k d
 | 0, a, d, _, h => by
  have : d = 0 := by simpa using h
  subst this; simp [padk]
 | k + 1, a, d, ha, h => by
  have hp := Nat.pow_pos (n := k) (show 0 < 10 by decide)
  have h1 : 1 * 10 ^ k ≤ a * 10 ^ k := qaZ _ ha
  have e : a * 10 ^ (k + 1) = a * 10 ^ k * 10 := by rw [qaH, qau]
  rw [qcG (by omega), e, show (a * 10 ^ k * 10 + d) / 10 = a * 10 ^ k + d / 10 by omega, show (a * 10 ^ k * 10 + d) % 10 = d % 10 by omega,
   qen k a (d / 10) ha (by rw [qaH] at h; omega), padk, qaT]
theorem ten9 : (10 : Nat) ^ 9 = 1000000000 := by decide
theorem qgt : ∀ k d : Nat, (padk k d).length = k
 | 0, _ => rfl
 | k + 1, d => by rw [padk, qaj, qgt k]; rfl
theorem pow9 (k : Nat) : (1000000000 : Nat) ^ k = 10 ^ (9 * k) := by
 rw [Nat.pow_mul]
theorem ql4 {L : List Nat} {n : Nat} (hd : Dig L) (hl : L.length = n + 1) (h0 : L.getD n 0 ≠ 0) : (decDigits (mval L)).length = n * 9 + (decDigits (L.getD n 0)).length := by
 have e := qb1 L n
 rw [← hl, qbo] at e
 have h1 := (hd.take n).lt
 rw [qao, hl, qaL (by omega), pow9] at h1
 rw [e, pow9, Nat.add_comm, qat (10 ^ (9 * n)), qen _ _ _ (qbl h0) h1, qaj, qgt]
 omega
theorem qjj {L : List Nat} {j : Nat} (hd : Dig L) (h0 : 0 < mval (L.drop (j + 1))) : decDigits (mval (L.drop j)) = decDigits (mval (L.drop (j + 1))) ++ (List.replicate (9 - (decDigits (L.getD j 0)).length) 48 ++ decDigits (L.getD j 0)) := by
 have h1 : L.getD j 0 < 10 ^ 9 := by rw [ten9]; exact hd j
 rw [qcF L j, Nat.add_comm, qat, ← ten9, qen 9 _ _ h0 h1, qi0 9 _ (by decide) h1]
theorem ten8 : (10 : Nat) ^ 8 = 100000000 := by decide
theorem qkG {v m : Nat} (h : v < 10 ^ m) (hm : m ≤ 9) : v < 1000000000 := by
 rw [← ten9]; exact qak h (qaP (by decide) hm)
theorem qkF {v m : Nat} (h : v < 10 ^ m) (hm : m ≤ 8) : v < 100000000 := by
 rw [← ten8]; exact qak h (qaP (by decide) hm)
theorem qdA {D Dst Di v d m : Nat} (h : v < 10 ^ m ∧ Di = Dst * 10 ^ m + v) (hD : D = Di * 10 + d) (hd : d ≤ 9) : v * 10 + d < 10 ^ (m + 1) ∧ D = Dst * 10 ^ (m + 1) + (v * 10 + d) := by
 obtain ⟨h1, h2⟩ := h
 rw [hD, h2, qaH]
 refine ⟨by omega, ?_⟩
 rw [qaM, qau]; omega
theorem qhh {P B D E m v : Nat} (h : D * E = D * B) : m + P * v + P * B * D = m + (P * (D * E) + P * v) := by
 rw [h, qau, qat D B]; omega
theorem qe9 {L : List UInt8} {S : List Nat} {st i k v : Nat} (hSl : S.length = k) (h : mval S + 1000000000 ^ k * dval (L.take i) = dval L) (hv : dval (L.take i) = dval (L.take st) * 10 ^ (i - st) + v) (hc : (st = 0 ∧ i ≤ 9) ∨ st + 9 = i) :
  mval (S ++ [v]) + 1000000000 ^ (k + 1) * dval (L.take st) = dval L := by
 rw [hv, qaW] at h
 rw [qcJ, hSl, qaH, ← h]
 refine qhh ?_
 rcases hc with ⟨h2, _⟩ | h2
 ·subst h2
  have e : dval (L.take 0) = 0 := rfl
  rw [e, Nat.zero_mul, Nat.zero_mul]
 ·have e : i - st = 9 := by omega
  rw [e, ten9]
end Go.Proofs.YtfminfgabiipjaaGreatDoor
