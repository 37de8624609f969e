/- Aa, part 50: Lw0 -/
import Derived.Test.YtfminfgabiipjaaGreatDoorAa0
import Derived.Test.YtfminfgabiipjaaGreatDoorAa43
import Derived.Test.YtfminfgabiipjaaGreatDoorAa48
set_option maxRecDepth 100000
set_option maxHeartbeats 16000000
namespace Go.Proofs.YtfminfgabiipjaaGreatDoor
open Go.RowKit
def LV (R n : Nat) (f : Nat → Nat → Rat) (b v : Nat → Rat) (W : World) (ao : Option Addr) (m : Nat) (c : Int) : Prop :=
 (Sing n (normR R n f b v) ∧ ao = none ∧ m = 0 ∧ c = 7) ∨
 (¬ Sing n (normR R n f b v) ∧ ∃ x, qcA n (normR R n f b v) (fun r => normR R n f b v r n) x ∧
  ((qcc n x ∧ ∃ g, ao = some ⟨g, 0, none⟩ ∧ m = n ∧ c = 0 ∧ FCells W (some ⟨g, 0, none⟩) g 0 (told n x)) ∨ (¬ qcc n x ∧ ao = none ∧ m = 0 ∧ c = 6)))
theorem qeR.vals {R n : Nat} {f : Nat → Nat → Rat} {b v : Nat → Rat} {e : Ending} {w' : World} (h : qeR R n f b v e w') : ∃ (ao : Option Addr) (m cp : Nat) (c : Int), e = .returned (.tuple #[.slice ao m cp, .int .i64 c]) ∧ LV R n f b v w' ao m c := by
 rcases h with ⟨h, rfl⟩ | ⟨h, x, hx, ⟨hs, g, rfl, hf⟩ | ⟨hs, rfl⟩⟩
 ·exact ⟨none, 0, 0, 7, rfl, qaA ⟨h, rfl, rfl, rfl⟩⟩
 ·exact ⟨_, _, _, 0, rfl, qas ⟨h, x, hx, qaA ⟨hs, g, rfl, rfl, rfl, hf⟩⟩⟩
 ·exact ⟨none, 0, 0, 6, rfl, qas ⟨h, x, hx, qas ⟨hs, rfl, rfl, rfl⟩⟩⟩
theorem LV.below {R n : Nat} {f : Nat → Nat → Rat} {b v : Nat → Rat} {W W' : World} {ao : Option Addr} {m : Nat} {c : Int} (h : LV R n f b v W ao m c) (hb : Below W.heap.size W W') : LV R n f b v W' ao m c := by
 rcases h with h | ⟨h, x, hx, ⟨hs, g, h1, h2, h3, hf⟩ | h2⟩
 ·exact qaA h
 ·exact qas ⟨h, x, hx, qaA ⟨hs, g, h1, h2, h3, hf.below hb⟩⟩
 ·exact qas ⟨h, x, hx, qas h2⟩
theorem LV.same {R S n : Nat} {f g : Nat → Nat → Rat} {b d w v : Nat → Rat} {W : World} {ao1 ao2 : Option Addr} {m1 m2 : Nat} {c1 c2 : Int} (h1 : LV R n f b w W ao1 m1 c1) (h2 : LV S n g d v W ao2 m2 c2) (s : Rat) (hs : s ≠ 0) (e : ∀ r c, r ≤ n → c ≤ n → normR R n f b w r c = s * normR S n g d v r c) :
  c1 = c2 ∧ ∃ (l : List FT) (g1 g2 : Nat), l.length = m1 ∧ l.length = m2 ∧ (m1 = n ∨ m1 = 0) ∧ FCells W ao1 g1 0 l ∧ FCells W ao2 g2 0 l := by
 have hnil : FCells W none 0 0 [] := ⟨fun h => absurd h (by decide), fun k h => absurd h (by simp)⟩
 have hsing : Sing n (normR R n f b w) ↔ Sing n (normR S n g d v) := Sing.scale (fun _ => s) (fun _ _ => hs) fun i hi j hj => e i j (by omega) (by omega)
 rcases h1 with ⟨s1, rfl, rfl, rfl⟩ | ⟨s1, x, hx, t1⟩
 ·rcases h2 with ⟨_, rfl, rfl, rfl⟩ | ⟨s2, _⟩
  ·exact ⟨rfl, [], 0, 0, rfl, rfl, qas rfl, hnil, hnil⟩
  ·exact absurd (hsing.1 s1) s2
 ·rcases h2 with ⟨s2, _⟩ | ⟨s2, y, hy, t2⟩
  ·exact absurd (hsing.2 s2) s1
  ·have hx2 : qcA n (normR S n g d v) (fun r => normR S n g d v r n) x := qcA.scale (fun _ => s) (fun _ _ => hs) (fun i hi j hj => e i j (by omega) (by omega)) (fun i hi => e i n (by omega) qN) hx
   have hu := hx2.uniq s2 hy
   rcases t1 with ⟨a1, g1, rfl, hm1, rfl, hf1⟩ | ⟨a1, rfl, rfl, rfl⟩
   ·rcases t2 with ⟨a2, g2, rfl, hm2, rfl, hf2⟩ | ⟨a2, _⟩
    ·refine ⟨rfl, told n x, g1, g2, by rw [qb2, hm1], by rw [qb2, hm2], qaA hm1, hf1, ?_⟩
     rw [qcU hu]; exact hf2
    ·exact absurd (a1.congr hu) a2
   ·rcases t2 with ⟨a2, _⟩ | ⟨a2, rfl, rfl, rfl⟩
    ·exact absurd (a2.congr fun i hi => (hu i hi).symm) a1
    ·exact ⟨rfl, [], 0, 0, rfl, rfl, qas rfl, hnil, hnil⟩
theorem qeq {R n : Nat} {f : Nat → Nat → Rat} {b v : Nat → Rat} {ao : Option Addr} {g c : Nat} {ao2 : Option Addr} {g2 c2 : Nat} {ao3 : Option Addr} {g3 c3 : Nat} {w : World} (h1 : 1 ≤ R) (h2 : R ≤ 40) (h3 : 1 ≤ n) (h4 : n ≤ 10) (hf : ∀ i, i < R → qcc n (f i)) (hb : qcc R b) (hv : qcc R v) (hv0 : ∀ i, i < R → 0 ≤ v i) (hT : TCells w ao g 0 (ttab R n f)) (hF : FCells w ao2 g2 0 (told R b)) (hF3 : FCells w ao3 g3 0 (told R v)) (hP : HasT w) :
  Calls Tryz.prog 22 #[.slice ao R c, .slice ao2 R c2, .slice ao3 R c3] w fun e w' => ∃ (a : Option Addr) (m cp : Nat) (cd : Int), e = .returned (.tuple #[.slice a m cp, .int .i64 cd]) ∧ LV R n f b v w' a m cd ∧ Below w.heap.size w w' := by
 refine (qeY h1 h2 h3 h4 hf hb hv hv0 hT hF hF3 hP).mono ?_
 rintro e w' ⟨h, hb'⟩
 obtain ⟨a, m, cp, cd, rfl, hl⟩ := h.vals
 exact ⟨a, m, cp, cd, rfl, hl, hb'⟩
theorem qkA (R : Nat) (F G : Nat → Rat) : told R F ++ told 1 G = told (R + 1) fun i => if i < R then F i else G (i - R) := by
 unfold told
 apply qbw
 intro k
 by_cases h : k < R
 ·rw [qay (by simpa using h), qav, qav, qaI h, qaI (by omega)]
  show some (ftxt (F k)) = some (ftxt (if k < R then F k else _))
  rw [if_pos h]
 ·rw [qaE (by simp; omega), qaG, qbd, qav, qav]
  by_cases h2 : k = R
  ·subst h2
   rw [qaN, qaI (by decide), qaI (by omega)]
   show some (ftxt (G 0)) = some (ftxt (if k < k then _ else G (k - k)))
   rw [if_neg (by omega), qaN]
  ·rw [qau (by rw [qbd]; omega), qau (by rw [qbd]; omega)]
   rfl
theorem qie (R n : Nat) (F G : Nat → Nat → Rat) (B D V : Nat → Rat) (r c : Nat) :
  normR R n F B V r c = 1 * normR (R + 1) n (fun i => if i < R then F i else G (i - R)) (fun i => if i < R then B i else D (i - R)) (fun i => if i < R then V i else (fv [0]) (i - R)) r c := by
 rw [qhM, if_neg (qby R), qaN, qhb (g := F) (d := B) (v := V) (fun i hi j _ => by rw [if_pos hi]) (fun i hi => if_pos hi) (fun i hi => if_pos hi)]
 show _ = 1 * (_ + 0 * _)
 grind
theorem qjD (R n k : Nat) (hk : k < R) (F : Nat → Nat → Rat) (B V : Nat → Rat) (r c : Nat) :
  normR R n F B (fun i => if i = k then V k + V k else V i) r c = 1 * normR (R + 1) n (fun i => if i < R then F i else F k) (fun i => if i < R then B i else B k) (fun i => if i < R then V i else V k) r c := by
 rw [qjB hk (fun i _ => rfl), qhM, if_neg (qby R), qhb (g := F) (d := B) (v := V) (fun i hi j _ => by rw [if_pos hi]) (fun i hi => if_pos hi) (fun i hi => if_pos hi)]
 have e : ∀ x, gR n (fun i => if i < R then F i else F k) (fun i => if i < R then B i else B k) R x = gR n F B k x := fun x => by
  unfold gR
  simp only [qby, if_false]
 rw [e, e]; grind
theorem Sm.dbl {p : Rat} (hp : Sm p) : Short (p + p) := by
 obtain ⟨a, ha, la⟩ := hp
 have e : p + p = ((2 * a : Int) : Rat) / ((60 : Int) : Rat) := by
  push_cast
  rw [← ha, qbc]
  have h3 : (60 : Rat) * (60 : Rat)⁻¹ = 1 := qa3 _ (by decide)
  grind
 exact qdq (N := 72000) (qfl (by decide) (by omega) (by decide) e) (by decide +kernel)
theorem Sm.third {p : Rat} (hp : Sm p) : Short (p * (7 / 3)) := by
 obtain ⟨a, ha, la⟩ := hp
 have e : p * (7 / 3) = ((7 * a : Int) : Rat) / ((180 : Int) : Rat) := by
  push_cast
  rw [← ha, qbc, qbc]
  have h3 : (60 : Rat) * (60 : Rat)⁻¹ = 1 := qa3 _ (by decide)
  have h4 : (3 : Rat) * (3 : Rat)⁻¹ = 1 := qa3 _ (by decide)
  have h5 : (180 : Rat) * (180 : Rat)⁻¹ = 1 := qa3 _ (by decide)
  grind
 exact qdq (N := 72000) (qfl (by decide) (by omega) (by decide) e) (by decide +kernel)
end Go.Proofs.YtfminfgabiipjaaGreatDoor
