/- Aa, part 40: Nrr -/
import Derived.Test.YtfminfgabiipjaaGreatDoorAa0
import Derived.Test.YtfminfgabiipjaaGreatDoorAa36
import Derived.Test.YtfminfgabiipjaaGreatDoorAa39
set_option maxRecDepth 100000
set_option maxHeartbeats 16000000
namespace Go.Proofs.YtfminfgabiipjaaGreatDoor
open Go.RowKit
def gR (n : Nat) (f : Nat → Nat → Rat) (b : Nat → Rat) (i c : Nat) : Rat := if c < n then f i c else b i
def normR (R n : Nat) (f : Nat → Nat → Rat) (b w : Nat → Rat) (r c : Nat) : Rat := sumQ R fun i => w i * (gR n f b i r * gR n f b i c)
theorem qiv {R n : Nat} {f : Nat → Nat → Rat} {b : Nat → Rat} {i : Nat} (hi : i < R) : besides (ttab R n f) (told R b) i = told n (f i) ++ [ftxt (b i)] := by
 unfold besides; rw [qda hi, qdP hi]
theorem qgv {R n : Nat} {f : Nat → Nat → Rat} {b : Nat → Rat} {i c : Nat} (hi : i < R) (hc : c ≤ n) : lval (besides (ttab R n f) (told R b) i) c = gR n f b i c := by
 rw [qiv hi]
 unfold gR
 by_cases h : c < n
 ·rw [if_pos h, qfu (by rw [qb2]; exact h), qd2 h]
 ·obtain rfl : c = n := by omega
  rw [if_neg h]
  have := qft (l := told c (f i)) (x := ftxt (b i))
  rw [qb2] at this
  rw [this, qde]
theorem qhL {R n : Nat} {f : Nat → Nat → Rat} {b w : Nat → Rat} {r c : Nat} (hr : r ≤ n) (hc : c ≤ n) : normQ (ttab R n f) (told R b) (told R w) R r c = normR R n f b w r c :=
 qb5 fun i hi => by rw [qd2 hi, qgv hi hr, qgv hi hc]
theorem qkQ {R n : Nat} {f : Nat → Nat → Rat} {b w x : Nat → Rat} : measQ (ttab R n f) (told R b) (told R w) (told n x) n R = msR R n f b w x :=
 qb5 fun i hi => by
  have : resQ (ttab R n f) (told R b) (told n x) n i = resR n f b x i := by
   unfold resQ resR
   rw [qd2 hi]
   congr 1
   exact qb5 fun j hj => by rw [qis hi hj, qd2 hj]
  rw [qd2 hi, this]
theorem qcy.congr {R n k : Nat} {A B : Nat → Nat → Rat} (h : qcy R n A k) (e : ∀ i, i < R → ∀ j, j < n → A i j = B i j) : qcy R n B k :=
 qcy.scale (fun _ => 1) (fun _ _ => by decide) (fun i hi j hj => by rw [e i hi j hj]; grind) h
theorem qhM (R n : Nat) (f : Nat → Nat → Rat) (b w : Nat → Rat) (r c : Nat) : normR (R + 1) n f b w r c = normR R n f b w r c + w R * (gR n f b R r * gR n f b R c) := rfl
theorem qhb {R n : Nat} {f g : Nat → Nat → Rat} {b d w v : Nat → Rat} (hf : ∀ i, i < R → ∀ j, j < n → f i j = g i j) (hb : ∀ i, i < R → b i = d i) (hw : ∀ i, i < R → w i = v i) (r c : Nat) : normR R n f b w r c = normR R n g d v r c :=
 qb5 fun i hi => by
  unfold gR
  rw [hw i hi, hb i hi]
  congr 2
  ·split
   ·exact hf i hi _ (by assumption)
   ·rfl
  ·split
   ·exact hf i hi _ (by assumption)
   ·rfl
theorem qjC {R n : Nat} {f : Nat → Nat → Rat} {b w v : Nat → Rat} {s : Rat} (hw : ∀ i, i < R → v i = s * w i) (r c : Nat) : normR R n f b v r c = s * normR R n f b w r c := by
 unfold normR
 rw [← qcj]
 exact qb5 fun i hi => by rw [hw i hi]; grind
theorem qjB {R n k : Nat} {f : Nat → Nat → Rat} {b w v : Nat → Rat} (hk : k < R) (hv : ∀ i, i < R → v i = if i = k then w k + w k else w i) (r c : Nat) : normR R n f b v r c = normR R n f b w r c + w k * (gR n f b k r * gR n f b k c) := by
 have e : normR R n f b v r c = sumQ R fun i => w i * (gR n f b i r * gR n f b i c) + if i = k then w k * (gR n f b k r * gR n f b k c) else 0 := qb5 fun i hi => by
  rw [hv i hi]
  by_cases h : i = k
  ·subst h; rw [if_pos rfl, if_pos rfl]; grind
  ·rw [if_neg h, if_neg h]; grind
 rw [e, qdB, qdJ R k _ hk fun i _ hik => if_neg hik, if_pos rfl]
 rfl
def qeR (R n : Nat) (f : Nat → Nat → Rat) (b w : Nat → Rat) (e : Ending) (w' : World) : Prop :=
 (Sing n (normR R n f b w) ∧ e = .returned (.tuple #[.slice none 0 0, .int .i64 7])) ∨ (¬ Sing n (normR R n f b w) ∧ ∃ x, qcA n (normR R n f b w) (fun r => normR R n f b w r n) x ∧ Tells n x e w')
theorem qkc {R : Nat} {w : Nat → Rat} (h : ∀ i, i < R → 0 ≤ w i) : ¬ Neg (told R w) := by
 rintro ⟨k, hk, hlt⟩
 rw [qb2] at hk
 rw [qdP hk, show (ftxt (w k)).1.data.toList = itxt (w k).num from rfl, qdw] at hlt
 have := Rat.num_nonneg.2 (h k hk)
 omega
theorem qgT.told {w0 : World} {R n : Nat} {f : Nat → Nat → Rat} {b w : Nat → Rat} {e : Ending} {w' : World} (h : qgT w0 (ttab R n f) (told R b) (told R w) e w') (h1 : 1 ≤ R) (h2 : R ≤ 40) (h3 : 1 ≤ n) (h4 : n ≤ 10) (hf : ∀ i, i < R → qcc n (f i)) (hb : qcc R b) (hw : qcc R w) (hw0 : ∀ i, i < R → 0 ≤ w i) : qeR R n f b w e w' ∧ Below w0.heap.size w0 w' := by
 have hT := qgr h1 h2 h3 h4 hf
 refine ⟨?_, h.2⟩
 rcases h.1 with h | h | h | h
 ·exact absurd hT h.1
 ·exact absurd ⟨qdd hb, qdd hw⟩ h.2.1
 ·exact absurd ⟨by rw [qb2, qch], by rw [qb2, qch], qkc hw0⟩ h.2.2.2.1
 ·have h5 := h.2.2.2.2.2.2
  rw [qdV h1, qch] at h5
  have hc : ∀ r, r < n → ∀ c, c < n → normQ (ttab R n f) (Go.Proofs.YtfminfgabiipjaaGreatDoor.told R b) (Go.Proofs.YtfminfgabiipjaaGreatDoor.told R w) R r c = normR R n f b w r c := fun r hr c hc => qhL (by omega) (by omega)
  rcases h5 with ⟨hs, he⟩ | ⟨hs, x, hx, ht⟩
  ·exact qaA ⟨hs.congr hc, he⟩
  ·exact qas ⟨fun hs2 => hs (hs2.congr fun r hr c hcc => (hc r hr c hcc).symm), x, hx.congr hc (fun r hr => qhL (by omega) qN) (fun _ _ => rfl), ht⟩
def qlh (n : Nat) (e1 : Ending) (w1 : World) (e2 : Ending) (w2 : World) : Prop :=
 (∃ (g1 g2 : Nat) (x : Nat → Rat), e1 = .returned (.tuple #[.slice (some ⟨g1, 0, none⟩) n n, .int .i64 0]) ∧ FCells w1 (some ⟨g1, 0, none⟩) g1 0 (told n x) ∧ e2 = .returned (.tuple #[.slice (some ⟨g2, 0, none⟩) n n, .int .i64 0]) ∧ FCells w2 (some ⟨g2, 0, none⟩) g2 0 (told n x)) ∨
 ∃ c : Int, c ≠ 0 ∧ e1 = .returned (.tuple #[.slice none 0 0, .int .i64 c]) ∧ e2 = .returned (.tuple #[.slice none 0 0, .int .i64 c])
theorem Tells.same {n : Nat} {x y : Nat → Rat} {e1 e2 : Ending} {w1 w2 : World} (h1 : Tells n x e1 w1) (h2 : Tells n y e2 w2) (e : ∀ i, i < n → x i = y i) : qlh n e1 w1 e2 w2 := by
 rcases h1 with ⟨s1, g1, a1, c1⟩ | ⟨s1, a1⟩
 ·rcases h2 with ⟨s2, g2, a2, c2⟩ | ⟨s2, a2⟩
  ·exact qaA ⟨g1, g2, x, a1, c1, a2, by rw [qcU e]; exact c2⟩
  ·exact absurd (s1.congr e) s2
 ·rcases h2 with ⟨s2, g2, a2, c2⟩ | ⟨s2, a2⟩
  ·exact absurd (s2.congr fun i hi => (e i hi).symm) s1
  ·exact qas ⟨6, by decide, a1, a2⟩
theorem qeR.same {R S n : Nat} {f g : Nat → Nat → Rat} {b d w v : Nat → Rat} {e1 e2 : Ending} {w1 w2 : World} (h1 : qeR R n f b w e1 w1) (h2 : qeR S n g d v e2 w2) (s : Rat) (hs : s ≠ 0) (e : ∀ r c, r ≤ n → c ≤ n → normR R n f b w r c = s * normR S n g d v r c) : qlh n e1 w1 e2 w2 := by
 have hsing : Sing n (normR R n f b w) ↔ Sing n (normR S n g d v) := Sing.scale (fun _ => s) (fun _ _ => hs) fun i hi j hj => e i j (by omega) (by omega)
 rcases h1 with ⟨s1, a1⟩ | ⟨s1, x, hx, t1⟩
 ·rcases h2 with ⟨s2, a2⟩ | ⟨s2, _⟩
  ·exact qas ⟨7, by decide, a1, a2⟩
  ·exact absurd (hsing.1 s1) s2
 ·rcases h2 with ⟨s2, a2⟩ | ⟨s2, y, hy, t2⟩
  ·exact absurd (hsing.2 s2) s1
  ·have hx2 : qcA n (normR S n g d v) (fun r => normR S n g d v r n) x := qcA.scale (fun _ => s) (fun _ _ => hs) (fun i hi j hj => e i j (by omega) (by omega)) (fun i hi => e i n (by omega) qN) hx
   exact t1.same t2 (hx2.uniq s2 hy)
end Go.Proofs.YtfminfgabiipjaaGreatDoor
