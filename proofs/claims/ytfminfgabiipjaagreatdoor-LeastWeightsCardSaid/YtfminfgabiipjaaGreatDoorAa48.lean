/- Aa, part 48: Le0 Lk0 -/
import Derived.Lib.AppendZeros
import Derived.LoopN
import Derived.Test.YtfminfgabiipjaaGreatDoorAa0
import Derived.Test.YtfminfgabiipjaaGreatDoorAa41
import Derived.Test.YtfminfgabiipjaaGreatDoorAa42
import Derived.Test.YtfminfgabiipjaaGreatDoorAa47
set_option maxRecDepth 100000
set_option maxHeartbeats 16000000
namespace Go.Proofs.YtfminfgabiipjaaGreatDoor
open Go.RowKit
def qgU (n : Nat) (F : Nat → Nat → Rat) (B : Nat → Rat) (W : World) (ao : Option Addr) (m : Nat) (c : Int) : Prop :=
 (Sing n F ∧ ao = none ∧ m = 0 ∧ c = 7) ∨ (¬ Sing n F ∧ ∃ x g, qcA n F B x ∧ qcc n x ∧ ao = some ⟨g, 0, none⟩ ∧ m = n ∧ c = 0 ∧ FCells W (some ⟨g, 0, none⟩) g 0 (told n x))
theorem qgU.below {n : Nat} {F : Nat → Nat → Rat} {B : Nat → Rat} {W W' : World} {ao : Option Addr} {m : Nat} {c : Int} (h : qgU n F B W ao m c) (hb : Below W.heap.size W W') : qgU n F B W' ao m c := by
 rcases h with h | ⟨h, x, g, h1, h2, h3, h4, h5, h6⟩
 ·exact qaA h
 ·exact qas ⟨h, x, g, h1, h2, h3, h4, h5, h6.below hb⟩
theorem vnew1 (W : World) (u : Value) (e : TypeId) {g : Nat} (hg : g = W.heap.size) : VCells (W.alloc (.cells #[u] e)) (some ⟨g, 0, none⟩) g 0 [u] := by
 subst hg
 refine ⟨fun _ => rfl, fun k hk => ?_⟩
 obtain rfl : k = 0 := by simp at hk; omega
 exact cell_of_row _ _ 0 _ _ _ (heap_alloc_new W _)
theorem qhn {a : Option Addr} {n c : Nat} : ∀ u ∈ [Value.slice a n c], qcD u ∧ u.oneCell' = true := fun u hu => by
 rw [qaq.1 hu]; exact ⟨qd7 _ _ _, rfl⟩
theorem Rws.told {W : World} {B n m c : Nat} {ra : Option Addr} {f : Nat → Rat} (h : Rws W B 46 2 (.slice ra m c) n (fflat (told n f))) : m = n ∧ ∃ rb, FCells W ra rb 0 (told n f) := by
 obtain ⟨ao, g, cp, e, hf, _⟩ := qeQ.of (w := W) h qB
 cases e
 exact ⟨rfl, g, hf⟩
theorem qcs.put {W : World} {vs : List Value} {t : Tbl} (h : qcs W vs t) {i m : Nat} {l : List FT} {ra : Option Addr} {rb ro rc : Nat} (hl : l.length = m) (hf : FCells W ra rb ro l) : qcs W (vs.set i (.slice ra m rc)) (t.set i l) :=
 ⟨by rw [qaS, qaS, h.1], fun k hk => by
  rw [qaS] at hk
  by_cases e : k = i
  ·subst e
   refine ⟨ra, rb, ro, rc, ?_, ?_⟩
   ·rw [qac, qbt (by rw [h.1]; exact hk), qac, qbt hk, ← hl]; rfl
   ·rw [qac, qbt hk]; exact hf
  ·obtain ⟨ra', rb', ro', rc', h1, h2⟩ := h.2 k hk
   refine ⟨ra', rb', ro', rc', ?_, ?_⟩
   ·rw [qac, qbA (by omega), ← qac, h1, qac, qac, qbA (by omega)]
   ·rw [qac, qbA (by omega), ← qac]; exact h2⟩
theorem qiq (n i : Nat) (f : Nat → Rat) (q : Rat) : (told n f).set i (ftxt q) = told n fun k => if k = i then q else f k := by
 unfold told
 apply qbw
 intro k
 by_cases e : k = i
 ·subst e
  by_cases h : k < n
  ·rw [qbt (by simpa using h), qav, qaI h]
   show some (ftxt q) = some (ftxt (if k = k then q else f k))
   rw [if_pos rfl]
  ·rw [qau (by simp; omega), qau (by simp; omega)]
 ·rw [qbA (by omega), qav, qav]
  by_cases h : k < n
  ·rw [qaI h]
   show some (ftxt (f k)) = some (ftxt (if k = i then q else f k))
   rw [if_neg e]
  ·rw [qau (by simp; omega)]; rfl
theorem qiH : ∀ (l : List FT) (i : Nat) (x : FT), i < l.length → ((fflat l).set (i * 2) (.string x.1)).set (i * 2 + 1) (.string x.2) = fflat (l.set i x)
 | [], i, _, h => by simp at h
 | y :: l, 0, x, _ => rfl
 | y :: l, i + 1, x, h => by
  have ih := qiH l i x (by simpa using h)
  rw [show (i + 1) * 2 = i * 2 + 1 + 1 by omega]
  show .string y.1 :: .string y.2 :: (((fflat l).set (i * 2) (.string x.1)).set (i * 2 + 1) (.string x.2)) = _
  rw [ih]; rfl
theorem qg3 {l : List FT} {j : Nat} (hj : j < l.length) (x : FT) (r : List Value) : ((fflat l ++ r).toArray.setIfInBounds (j * 2) (.string x.1)).setIfInBounds (j * 2 + 1) (.string x.2) = (fflat (l.set j x) ++ r).toArray := by
 rw [qaa, qaa, List.set_append_left _ _ (by rw [qcl]; omega), List.set_append_left _ _ (by rw [qaS, qcl]; omega), qiH l j x hj]
theorem Rws.open {w : World} {base n size : Nat} {e : TypeId} {v : Value} {xs : List Value} (h : Rws w base e size v n xs) (hn : 0 < n) :
  ∃ (g cap : Nat) (r : List Value), v = .slice (some ⟨g, 0, none⟩) n cap ∧ base ≤ g ∧ n ≤ cap ∧ w.heap[g]? = some (.cells (xs ++ r).toArray e (0, 0)) ∧ (∀ (W : World) (ys : List Value), ys.length = xs.length → (∀ y ∈ ys, qcD y) → W.heap[g]? = some (.cells (ys ++ r).toArray e (0, 0)) → Rws W base e size (.slice (some ⟨g, 0, none⟩) n cap) n ys) := by
 have hl := h.1
 rcases h.2 with ⟨_, h0⟩ | ⟨g, cap, cur, rfl, hbg, hg, hnc, hcm, hcs, htake, hcn⟩
 ·omega
 obtain ⟨r, hr⟩ : ∃ r, cur = (xs ++ r).toArray := ⟨cur.toList.drop (n * size), by rw [← htake, qa9]⟩
 refine ⟨g, cap, r, rfl, hbg, hnc, by rw [← hr]; exact hg, fun W ys hy hyn hW => ⟨by rw [hy]; exact hl, .inr ⟨g, cap, _, rfl, hbg, hW, hnc, hcm, ?_, ?_, ?_⟩⟩⟩
 ·rw [← hcs, hr]; simp [hy]
 ·rw [List.toList_toArray, ← hl, ← hy, List.take_left]
 ·intro x hx
  rw [List.toList_toArray] at hx
  rcases qa6.1 hx with h | h
  ·exact hyn x h
  ·exact hcn x (by rw [hr]; simp [h])
theorem qir (R n : Nat) (F G : Nat → Nat → Rat) : ttab R n F ++ ttab 1 n G = ttab (R + 1) n fun i => if i < R then F i else G (i - R) := by
 unfold ttab
 apply qbw
 intro k
 by_cases h : k < R
 ·rw [qay (by simpa using h), qav, qav, qaI h, qaI (by omega)]
  show some (told n (F k)) = some (told n (if k < R then F k else _))
  rw [if_pos h]
 ·rw [qaE (by simp; omega), qaG, qbd, qav, qav]
  by_cases h2 : k = R
  ·subst h2
   rw [qaN, qaI (by decide), qaI (by omega)]
   show some (told n (G 0)) = some (told n (if k < k then _ else G (k - k)))
   rw [if_neg (by omega), qaN]
  ·rw [qau (by rw [qbd]; omega), qau (by rw [qbd]; omega)]
   rfl
end Go.Proofs.YtfminfgabiipjaaGreatDoor
