/- Rk, part 46: Le0 Lk0 -/
import Derived.Lib.AppendZeros
import Derived.LoopN
import Derived.Test.YtfminfgabiipjaaGreatDoorRk0
import Derived.Test.YtfminfgabiipjaaGreatDoorRk42
import Derived.Test.YtfminfgabiipjaaGreatDoorRk43
section
namespace Go.Proofs.YtfminfgabiipjaaGreatDoor
open Go.RowKit
def Solved (n : Nat) (F : Nat → Nat → Rat) (B : Nat → Rat) (W : World) (ao : Option Addr) (m : Nat) (c : Int) : Prop :=
 (Sing n F ∧ ao = none ∧ m = 0 ∧ c = 7) ∨ (¬ Sing n F ∧ ∃ x g, Solves n F B x ∧ AllShort n x ∧ ao = some ⟨g, 0, none⟩ ∧ m = n ∧ c = 0 ∧ FCells W (some ⟨g, 0, none⟩) g 0 (told n x))
theorem Solved.below {n : Nat} {F : Nat → Nat → Rat} {B : Nat → Rat} {W W' : World} {ao : Option Addr} {m : Nat} {c : Int} (h : Solved n F B W ao m c) (hb : Below W.heap.size W W') : Solved n F B W' ao m c := by
 rcases h with h | ⟨h, x, g, h1, h2, h3, h4, h5, h6⟩
 ·exact Or.inl h
 ·exact Or.inr ⟨h, x, g, h1, h2, h3, h4, h5, h6.below hb⟩
end Go.Proofs.YtfminfgabiipjaaGreatDoor
end
section
namespace Go.Proofs.YtfminfgabiipjaaGreatDoor
open Go.RowKit
theorem Sm.mul_short {p q : Rat} (hp : Sm p) (hq : Sm q) : Short (p * q) := by
 obtain ⟨a, ha, la⟩ := hp
 obtain ⟨b, hb, lb⟩ := hq
 have e : p * q = ((a * b : Int) : Rat) / ((3600 : Int) : Rat) := by
  push_cast
  rw [← ha, ← hb, Rat.div_def]
  have h3 : (3600 : Rat) * (3600 : Rat)⁻¹ = 1 := Rat.mul_inv_cancel _ (by decide)
  grind
 refine short_rb (N := 1440000) (rb_div (by decide) ?_ (by decide) e) (by decide +kernel)
 rw [Int.natAbs_mul]
 exact Nat.mul_le_mul la lb
theorem Sm.add_short {p q s : Rat} (hp : Sm p) (hq : Sm q) (hs : Sm s) : Short (p + q * s) := by
 obtain ⟨a, ha, la⟩ := hp
 obtain ⟨b, hb, lb⟩ := hq
 obtain ⟨c, hc, lc⟩ := hs
 have e : p + q * s = ((60 * a + b * c : Int) : Rat) / ((3600 : Int) : Rat) := by
  push_cast
  rw [← ha, ← hb, ← hc, Rat.div_def]
  have h3 : (3600 : Rat) * (3600 : Rat)⁻¹ = 1 := Rat.mul_inv_cancel _ (by decide)
  grind
 refine short_rb (N := 2000000) (rb_div (by decide) ?_ (by decide) e) (by decide +kernel)
 have h1 : (b * c).natAbs ≤ 1440000 := by rw [Int.natAbs_mul]; exact Nat.mul_le_mul lb lc
 omega
theorem rank_next {R n k l : Nat} {A B : Nat → Nat → Rat} (h : RankIs R n A k) (h2 : RankIs (R + 1) n B l) (e : ∀ i, i < R → ∀ j, j < n → A i j = B i j) : k ≤ l ∧ l ≤ k + 1 := by
 rcases (h.congr e).more with h' | h'
 ·have := h'.uniq h2 (SpanEq.refl _ _ _); omega
 ·have := h'.uniq h2 (SpanEq.refl _ _ _); omega
theorem vnew1 (W : World) (u : Value) (e : TypeId) {g : Nat} (hg : g = W.heap.size) : VCells (W.alloc (.cells #[u] e)) (some ⟨g, 0, none⟩) g 0 [u] := by
 subst hg
 refine ⟨fun _ => rfl, fun k hk => ?_⟩
 obtain rfl : k = 0 := by simp at hk; omega
 exact cell_of_row _ _ 0 _ _ _ (heap_alloc_new W _)
theorem slc_one {a : Option Addr} {n c : Nat} : ∀ u ∈ [Value.slice a n c], NotInt u ∧ u.oneCell' = true := fun u hu => by
 rw [List.mem_singleton.1 hu]; exact ⟨slice_not _ _ _, rfl⟩
theorem Rws.told {W : World} {B n m c : Nat} {ra : Option Addr} {f : Nat → Rat} (h : Rws W B 46 2 (.slice ra m c) n (fflat (told n f))) : m = n ∧ ∃ rb, FCells W ra rb 0 (told n f) := by
 obtain ⟨ao, g, cp, e, hf, _⟩ := HandsOn.of (w := W) (W1 := W) h qB
 cases e
 exact ⟨rfl, g, hf⟩
theorem ttab_rev (R n : Nat) (F : Nat → Nat → Rat) : (ttab R n F).reverse = ttab R n fun i => F (R - 1 - i) := by
 unfold ttab
 apply List.ext_getElem?
 intro k
 by_cases h : k < R
 ·rw [List.getElem?_reverse (by simpa using h), List.length_map, List.length_range, List.getElem?_map, List.getElem?_map, List.getElem?_range (by omega), List.getElem?_range h]; rfl
 ·rw [List.getElem?_eq_none (by simp; omega), List.getElem?_eq_none (by simp; omega)]
theorem RowVals.rev {W : World} {vs : List Value} {t : Tbl} (h : RowVals W vs t) : RowVals W vs.reverse t.reverse :=
 ⟨by rw [List.length_reverse, List.length_reverse, h.1], fun k hk => by
  rw [List.length_reverse] at hk
  obtain ⟨ra, rb, ro, rc, h1, h2⟩ := h.2 (t.length - 1 - k) (by omega)
  have e1 : vs.reverse.getD k undef = vs.getD (t.length - 1 - k) undef := by rw [List.getD_eq_getElem?_getD, List.getElem?_reverse (by rw [h.1]; exact hk), h.1, ← List.getD_eq_getElem?_getD]
  have e2 : t.reverse.getD k [] = t.getD (t.length - 1 - k) [] := by rw [List.getD_eq_getElem?_getD, List.getElem?_reverse hk, ← List.getD_eq_getElem?_getD]
  rw [e1, e2]
  exact ⟨ra, rb, ro, rc, h1, h2⟩⟩
theorem RowVals.slices {W : World} {vs : List Value} {t : Tbl} (h : RowVals W vs t) : ∀ u ∈ vs, ∃ (a : Option Addr) (m c : Nat), u = .slice a m c := fun u hu => by
 obtain ⟨k, hk, rfl⟩ := List.getElem_of_mem hu
 obtain ⟨ra, rb, ro, rc, h1, _⟩ := h.2 k (by rw [← h.1]; exact hk)
 rw [List.getD_eq_getElem?_getD, List.getElem?_eq_getElem hk] at h1
 exact ⟨_, _, _, h1⟩
theorem RowVals.put {W : World} {vs : List Value} {t : Tbl} (h : RowVals W vs t) {i m : Nat} {l : List FT} {ra : Option Addr} {rb ro rc : Nat} (hl : l.length = m) (hf : FCells W ra rb ro l) : RowVals W (vs.set i (.slice ra m rc)) (t.set i l) :=
 ⟨by rw [List.length_set, List.length_set, h.1], fun k hk => by
  rw [List.length_set] at hk
  by_cases e : k = i
  ·subst e
   refine ⟨ra, rb, ro, rc, ?_, ?_⟩
   ·rw [List.getD_eq_getElem?_getD, List.getElem?_set_self (by rw [h.1]; exact hk), List.getD_eq_getElem?_getD, List.getElem?_set_self hk, ← hl]; rfl
   ·rw [List.getD_eq_getElem?_getD, List.getElem?_set_self hk]; exact hf
  ·obtain ⟨ra', rb', ro', rc', h1, h2⟩ := h.2 k hk
   refine ⟨ra', rb', ro', rc', ?_, ?_⟩
   ·rw [List.getD_eq_getElem?_getD, List.getElem?_set_ne (by omega), ← List.getD_eq_getElem?_getD, h1, List.getD_eq_getElem?_getD, List.getD_eq_getElem?_getD, List.getElem?_set_ne (by omega)]
   ·rw [List.getD_eq_getElem?_getD, List.getElem?_set_ne (by omega), ← List.getD_eq_getElem?_getD]; exact h2⟩
theorem ttab_set (R n i : Nat) (F : Nat → Nat → Rat) (f : Nat → Rat) : (ttab R n F).set i (told n f) = ttab R n fun k => if k = i then f else F k := by
 unfold ttab
 apply List.ext_getElem?
 intro k
 by_cases e : k = i
 ·subst e
  by_cases h : k < R
  ·rw [List.getElem?_set_self (by simpa using h), List.getElem?_map, List.getElem?_range h]
   show some (told n f) = some (told n (if k = k then f else F k))
   rw [if_pos rfl]
  ·rw [List.getElem?_eq_none (by simp; omega), List.getElem?_eq_none (by simp; omega)]
 ·rw [List.getElem?_set_ne (by omega), List.getElem?_map, List.getElem?_map]
  by_cases h : k < R
  ·rw [List.getElem?_range h]
   show some (told n (F k)) = some (told n (if k = i then f else F k))
   rw [if_neg e]
  ·rw [List.getElem?_eq_none (by simp; omega)]; rfl
theorem told_set (n i : Nat) (f : Nat → Rat) (q : Rat) : (told n f).set i (ftxt q) = told n fun k => if k = i then q else f k := by
 unfold told
 apply List.ext_getElem?
 intro k
 by_cases e : k = i
 ·subst e
  by_cases h : k < n
  ·rw [List.getElem?_set_self (by simpa using h), List.getElem?_map, List.getElem?_range h]
   show some (ftxt q) = some (ftxt (if k = k then q else f k))
   rw [if_pos rfl]
  ·rw [List.getElem?_eq_none (by simp; omega), List.getElem?_eq_none (by simp; omega)]
 ·rw [List.getElem?_set_ne (by omega), List.getElem?_map, List.getElem?_map]
  by_cases h : k < n
  ·rw [List.getElem?_range h]
   show some (ftxt (f k)) = some (ftxt (if k = i then q else f k))
   rw [if_neg e]
  ·rw [List.getElem?_eq_none (by simp; omega)]; rfl
theorem fflat_set : ∀ (l : List FT) (i : Nat) (x : FT), i < l.length → ((fflat l).set (i * 2) (.string x.1)).set (i * 2 + 1) (.string x.2) = fflat (l.set i x)
 | [], i, _, h => by simp at h
 | y :: l, 0, x, _ => rfl
 | y :: l, i + 1, x, h => by
  have ih := fflat_set l i x (by simpa using h)
  rw [show (i + 1) * 2 = i * 2 + 1 + 1 by omega]
  show .string y.1 :: .string y.2 :: (((fflat l).set (i * 2) (.string x.1)).set (i * 2 + 1) (.string x.2)) = _
  rw [ih]; rfl
theorem fflat_put {l : List FT} {j : Nat} (hj : j < l.length) (x : FT) (r : List Value) : ((fflat l ++ r).toArray.setIfInBounds (j * 2) (.string x.1)).setIfInBounds (j * 2 + 1) (.string x.2) = (fflat (l.set j x) ++ r).toArray := by
 rw [List.setIfInBounds_toArray, List.setIfInBounds_toArray, List.set_append_left _ _ (by rw [fflat_len]; omega), List.set_append_left _ _ (by rw [List.length_set, fflat_len]; omega), fflat_set l j x hj]
theorem FCells.stored {W : World} {ao : Option Addr} {b off : Nat} {l : List FT} (h : FCells W ao b off l) {p : Addr} {a : Option Addr} {n c : Nat} (hp : W.cell? p = some (.slice a n c)) (v : Value) : FCells (W.setCell p v) ao b off l :=
 ⟨h.addr, fun k hk => by
  obtain ⟨h1, h2⟩ := h.cell k hk
  exact ⟨(World.cell?_setCell_other _ _ _ _ fun e => by rw [← e, hp] at h1; cases h1).trans h1, (World.cell?_setCell_other _ _ _ _ fun e => by rw [← e, hp] at h2; cases h2).trans h2⟩⟩
theorem RowVals.stored {W : World} {vs : List Value} {t : Tbl} (h : RowVals W vs t) {p : Addr} {a : Option Addr} {n c : Nat} (hp : W.cell? p = some (.slice a n c)) (v : Value) : RowVals (W.setCell p v) vs t :=
 ⟨h.1, fun k hk => by
  obtain ⟨ra, rb, ro, rc, h1, h2⟩ := h.2 k hk
  exact ⟨ra, rb, ro, rc, h1, h2.stored hp v⟩⟩
theorem Rws.open {w : World} {base n size : Nat} {e : TypeId} {v : Value} {xs : List Value} (h : Rws w base e size v n xs) (hn : 0 < n) :
  ∃ (g cap : Nat) (r : List Value), v = .slice (some ⟨g, 0, none⟩) n cap ∧ base ≤ g ∧ n ≤ cap ∧ w.heap[g]? = some (.cells (xs ++ r).toArray e (0, 0)) ∧ (∀ (W : World) (ys : List Value), ys.length = xs.length → (∀ y ∈ ys, NotInt y) → W.heap[g]? = some (.cells (ys ++ r).toArray e (0, 0)) → Rws W base e size (.slice (some ⟨g, 0, none⟩) n cap) n ys) := by
 have hl := h.1
 rcases h.2 with ⟨_, h0⟩ | ⟨g, cap, cur, rfl, hbg, hg, hnc, hcm, hcs, htake, hcn⟩
 ·omega
 obtain ⟨r, hr⟩ : ∃ r, cur = (xs ++ r).toArray := ⟨cur.toList.drop (n * size), by rw [← htake, List.take_append_drop]⟩
 refine ⟨g, cap, r, rfl, hbg, hnc, by rw [← hr]; exact hg, fun W ys hy hyn hW => ⟨by rw [hy]; exact hl, .inr ⟨g, cap, _, rfl, hbg, hW, hnc, hcm, ?_, ?_, ?_⟩⟩⟩
 ·rw [← hcs, hr]; simp [hy]
 ·rw [List.toList_toArray, ← hl, ← hy, List.take_left]
 ·intro x hx
  rw [List.toList_toArray] at hx
  rcases List.mem_append.1 hx with h | h
  ·exact hyn x h
  ·exact hcn x (by rw [hr]; simp [h])
theorem ttab_add (R n : Nat) (F G : Nat → Nat → Rat) : ttab R n F ++ ttab 1 n G = ttab (R + 1) n fun i => if i < R then F i else G (i - R) := by
 unfold ttab
 apply List.ext_getElem?
 intro k
 by_cases h : k < R
 ·rw [List.getElem?_append_left (by simpa using h), List.getElem?_map, List.getElem?_map, List.getElem?_range h, List.getElem?_range (by omega)]
  show some (told n (F k)) = some (told n (if k < R then F k else _))
  rw [if_pos h]
 ·rw [List.getElem?_append_right (by simp; omega), List.length_map, List.length_range, List.getElem?_map, List.getElem?_map]
  by_cases h2 : k = R
  ·subst h2
   rw [Nat.sub_self, List.getElem?_range (by decide), List.getElem?_range (by omega)]
   show some (told n (G 0)) = some (told n (if k < k then _ else G (k - k)))
   rw [if_neg (by omega), Nat.sub_self]
  ·rw [List.getElem?_eq_none (by rw [List.length_range]; omega), List.getElem?_eq_none (by rw [List.length_range]; omega)]
   rfl
end Go.Proofs.YtfminfgabiipjaaGreatDoor
end
