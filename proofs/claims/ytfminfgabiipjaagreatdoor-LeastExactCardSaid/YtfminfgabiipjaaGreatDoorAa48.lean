/- Aa, part 48: Le0 Le Lk0 -/
import Derived.Deep.RegionHeld3
import Derived.Test.YtfminfgabiipjaaGreatDoorAa0
import Derived.Test.YtfminfgabiipjaaGreatDoorAa41
import Derived.Test.YtfminfgabiipjaaGreatDoorAa46
import Derived.Test.YtfminfgabiipjaaGreatDoorAa47
set_option maxRecDepth 100000
set_option maxHeartbeats 16000000
namespace Go.Proofs.YtfminfgabiipjaaGreatDoor
open Go.RowKit
theorem qho {α : Type} (f : Nat → α) (n k : Nat) (hk : k < n) : ((List.range n).map f).drop k ++ ((List.range n).map f).take k = (List.range n).map fun i => f ((i + k) % n) := by
 apply qbA
 intro i
 rw [qaA]
 by_cases h : i < n
 ·rw [qaV h]
  by_cases h2 : i < n - k
  ·rw [qaC (by simp; omega), qbj, qaA, qaV (by omega)]
   show some (f (k + i)) = some (f ((i + k) % n))
   rw [qbx (by omega), Nat.add_comm]
  ·rw [qaF (by simp; omega), qaB, qaG, qbq, qaU (by omega), qaA, qaV (by omega)]
   show some (f (i - (n - k))) = some (f ((i + k) % n))
   rw [show i + k = (i - (n - k)) + n by omega, Nat.add_mod_right, qbx (by omega)]
 ·rw [qay (by simp; omega), qay (by rw [qbq]; omega)]; rfl
theorem ql3 (n k : Nat) (hk : k < n) (B : Nat → Rat) : (told n B).drop k ++ (told n B).take k = told n fun i => B ((i + k) % n) := qho (fun i => ftxt (B i)) n k hk
theorem ql5 (n m k : Nat) (hk : k < n) (F : Nat → Nat → Rat) : (ttab n m F).drop k ++ (ttab n m F).take k = ttab n m fun i => F ((i + k) % n) := qho (fun i => told m (F i)) n k hk
theorem FCells.dropped {W : World} {ao : Option Addr} {b off : Nat} {l : List FT} (h : FCells W ao b off l) (k : Nat) : FCells W (some ⟨b, off + k * 2, none⟩) b (off + k * 2) (l.drop k) :=
 ⟨fun _ => rfl, fun j hj => by
  rw [qaB] at hj
  have := h.cell (k + j) (by omega)
  rw [qab, qbj, ← qab]
  rw [show off + k * 2 + j * 2 = off + (k + j) * 2 by omega]
  exact this⟩
theorem FCells.taken {W : World} {ao : Option Addr} {b off : Nat} {l : List FT} (h : FCells W ao b off l) (k : Nat) : FCells W (some ⟨b, off, none⟩) b off (l.take k) :=
 ⟨fun _ => rfl, fun j hj => by
  rw [qao] at hj
  have := h.cell j (by omega)
  rw [qab, qaU (by omega), ← qab]
  exact this⟩
theorem VCells.dropped {W : World} {ao : Option Addr} {b off : Nat} {l : List Value} (h : VCells W ao b off l) (k : Nat) : VCells W (some ⟨b, off + k, none⟩) b (off + k) (l.drop k) :=
 ⟨fun _ => rfl, fun j hj => by
  rw [qaB] at hj
  have := h.cell (k + j) (by omega)
  rw [qab, qbj, ← qab]
  rw [show off + k + j = off + (k + j) by omega]
  exact this⟩
theorem VCells.taken {W : World} {ao : Option Addr} {b off : Nat} {l : List Value} (h : VCells W ao b off l) (k : Nat) : VCells W (some ⟨b, off, none⟩) b off (l.take k) :=
 ⟨fun _ => rfl, fun j hj => by
  rw [qao] at hj
  have := h.cell j (by omega)
  rw [qab, qaU (by omega), ← qab]
  exact this⟩
theorem qcr.dropped {W : World} {vs : List Value} {t : Tbl} (h : qcr W vs t) (k : Nat) : qcr W (vs.drop k) (t.drop k) :=
 ⟨by rw [qaB, qaB, h.1], fun j hj => by
  rw [qaB] at hj
  obtain ⟨ra, rb, ro, rc, h1, h2⟩ := h.2 (k + j) (by omega)
  refine ⟨ra, rb, ro, rc, ?_, ?_⟩
  ·rw [qab, qbj, ← qab, h1]
   rw [qab, qab, qbj]
  ·rw [qab, qbj, ← qab]; exact h2⟩
theorem qcr.taken {W : World} {vs : List Value} {t : Tbl} (h : qcr W vs t) (k : Nat) : qcr W (vs.take k) (t.take k) :=
 ⟨by rw [qao, qao, h.1], fun j hj => by
  rw [qao] at hj
  obtain ⟨ra, rb, ro, rc, h1, h2⟩ := h.2 j (by omega)
  refine ⟨ra, rb, ro, rc, ?_, ?_⟩
  ·rw [qab, qaU (by omega), ← qab, h1]
   rw [qab, qab, qaU (by omega)]
  ·rw [qab, qaU (by omega), ← qab]; exact h2⟩
theorem VCells.drop0 {W W' : World} {ao : Option Addr} {b : Nat} {l : List Value} (h : VCells W ao b 0 l) (k : Nat) (hb : Below W.heap.size W W') : VCells W' (some ⟨b, k, none⟩) b k (l.drop k) := by
 have := (h.below hb).dropped k
 rwa [qaK] at this
theorem VCells.take0 {W W' : World} {ao : Option Addr} {b : Nat} {l : List Value} (h : VCells W ao b 0 l) (k : Nat) (hb : Below W.heap.size W W') : VCells W' (some ⟨b, 0, none⟩) b 0 (l.take k) := (h.below hb).taken k
theorem FCells.drop0 {W W' : World} {ao : Option Addr} {b : Nat} {l : List FT} (h : FCells W ao b 0 l) (k : Nat) (hb : Below W.heap.size W W') : FCells W' (some ⟨b, k * 2, none⟩) b (k * 2) (l.drop k) := by
 have := (h.below hb).dropped k
 rwa [qaK] at this
theorem FCells.take0 {W W' : World} {ao : Option Addr} {b : Nat} {l : List FT} (h : FCells W ao b 0 l) (k : Nat) (hb : Below W.heap.size W W') : FCells W' (some ⟨b, 0, none⟩) b 0 (l.take k) := (h.below hb).taken k
def qgz (n : Nat) (F : Nat → Nat → Rat) (B : Nat → Rat) (W : World) (ao : Option Addr) (m : Nat) (c : Int) : Prop :=
 (Sing n F ∧ ao = none ∧ m = 0 ∧ c = 7) ∨ (¬ Sing n F ∧ ∃ x g, qcy n F B x ∧ qb9 n x ∧ ao = some ⟨g, 0, none⟩ ∧ m = n ∧ c = 0 ∧ FCells W (some ⟨g, 0, none⟩) g 0 (told n x))
theorem qgz.below {n : Nat} {F : Nat → Nat → Rat} {B : Nat → Rat} {W W' : World} {ao : Option Addr} {m : Nat} {c : Int} (h : qgz n F B W ao m c) (hb : Below W.heap.size W W') : qgz n F B W' ao m c := by
 rcases h with h | ⟨h, x, g, h1, h2, h3, h4, h5, h6⟩
 ·exact qaz h
 ·exact qav ⟨h, x, g, h1, h2, h3, h4, h5, h6.below hb⟩
theorem qjP {n : Nat} {F : Nat → Nat → Rat} {B : Nat → Rat} {ao : Option Addr} {g c : Nat} {ao2 : Option Addr} {g2 c2 : Nat} {w : World} (h1 : 1 ≤ n) (h4 : n ≤ 4) (hf : ∀ i j, Sm (F i j)) (hb : ∀ i, Sm (B i)) (hT : TCells w ao g 0 (ttab n n F)) (hF : FCells w ao2 g2 0 (told n B)) (hP : HasT w) :
  Calls Tryz.prog 18 #[.slice ao n c, .slice ao2 n c2] w fun e w' => ∃ (a : Option Addr) (m cp : Nat) (cd : Int), e = .returned (.tuple #[.slice a m cp, .int .i64 cd]) ∧ qgz n F B w' a m cd ∧ Below w.heap.size w w' := by
 refine (qgZ h1 (by omega) (fun i _ => fun j _ => (hf i j).short) (fun i _ => (hb i).short) hT hF hP).mono ?_
 rintro e w' ⟨⟨hs, rfl⟩ | ⟨hs, x, hx, ht⟩, hb'⟩
 ·exact ⟨none, 0, 0, 7, rfl, qaz ⟨hs, rfl, rfl, rfl⟩, hb'⟩
 ·have hsx := (qgF h4 hf hb hs hx).1
  obtain ⟨g, rfl, hfx⟩ := ht.short hsx
  exact ⟨some ⟨g, 0, none⟩, n, n, 0, rfl, qav ⟨hs, x, g, hx, hsx, rfl, rfl, rfl, hfx⟩, hb'⟩
theorem qi6 {n k : Nat} (hk : k < n) {F : Nat → Nat → Rat} {B : Nat → Rat} {W W2 : World} {ao ao2 : Option Addr} {m m2 : Nat} {c c2 : Int} (h : qgz n F B W ao m c) (h2 : qgz n (fun i => F ((i + k) % n)) (fun i => B ((i + k) % n)) W2 ao2 m2 c2) :
  (Sing n F ∧ ao = none ∧ ao2 = none ∧ m = 0 ∧ m2 = 0 ∧ c = 7 ∧ c2 = 7) ∨ (¬ Sing n F ∧ ∃ x g g2, qcy n F B x ∧ qb9 n x ∧ ao = some ⟨g, 0, none⟩ ∧ ao2 = some ⟨g2, 0, none⟩ ∧ m = n ∧ m2 = n ∧ c = 0 ∧ c2 = 0 ∧ FCells W (some ⟨g, 0, none⟩) g 0 (told n x) ∧ FCells W2 (some ⟨g2, 0, none⟩) g2 0 (told n x)) := by
 have hσ : ∀ i, i < n → ∃ j, j < n ∧ (j + k) % n = i := fun i hi => by
  refine ⟨(i + (n - k)) % n, qa3 _ (by omega), ?_⟩
  rw [Nat.mod_add_mod, show i + (n - k) + k = i + n by omega, Nat.add_mod_right, qbx hi]
 have hσ2 : ∀ i, i < n → (i + k) % n < n := fun i hi => qa3 _ (by omega)
 have hst := qlT (n := n) (A := F) (B := fun i => F ((i + k) % n)) (fun i => (i + k) % n) hσ hσ2 (fun _ _ _ _ => rfl)
 rcases h with ⟨h, rfl, rfl, rfl⟩ | ⟨h, x, g, hx, hsx, rfl, hm, rfl, hf⟩
 ·rcases h2 with ⟨_, rfl, rfl, rfl⟩ | ⟨h', _⟩
  ·exact qaz ⟨h, rfl, rfl, rfl, rfl, rfl, rfl⟩
  ·exact absurd (hst.1 h) h'
 ·rcases h2 with ⟨h', _⟩ | ⟨h', y, g2, hy, _, rfl, hm2, rfl, hf2⟩
  ·exact absurd (hst.2 h') h
  ·have hx' := qi7 (n := n) (A := F) (B := fun i => F ((i + k) % n)) (b := B) (c := fun i => B ((i + k) % n)) (fun i => (i + k) % n) hσ2 (fun _ _ _ _ => rfl) (fun _ _ => rfl) hx
   rw [qdk (hy.uniq h' hx')] at hf2
   exact qav ⟨h, x, g, g2, hx, hsx, rfl, rfl, hm, hm2, rfl, rfl, hf, hf2⟩
theorem qeu (W : World) (u v : Value) (e : TypeId) {g : Nat} (hg : g = W.heap.size) : VCells (W.alloc (.cells #[u, v] e)) (some ⟨g, 0, none⟩) g 0 [u, v] := by
 subst hg
 refine ⟨fun _ => rfl, fun k hk => ?_⟩
 have h := qh1 (W := W) (u := u) (v := v) (e := e) k ([u, v].getD k undef) (by rw [qab, qai hk]; rfl)
 rwa [Addr.add_mid] at h
def TurnedAt (w W : World) (n k : Nat) (F : Nat → Nat → Rat) (B : Nat → Rat) (x11 x12 : Value) : Prop :=
 ∃ (a : Option Addr) (m cp : Nat) (c : Int), x11 = .slice a m cp ∧ x12 = .int .i64 c ∧ qgz n (fun i => F ((i + k) % n)) (fun i => B ((i + k) % n)) W a m c ∧ Below w.heap.size w W
theorem qj0 (hworks : ∀ W : World, HasT W → Calls Tryz.prog 10 #[] W fun e w' => e = .returned (.bool true) ∧ Below W.heap.size W w')
  (r1 c1 : Nat) (N1 : List Int) (D1 : List Nat) (v1 : Value) (t : Nat) (ht : t < 256) (w : World) (h1 : qc4 w v1 r1 c1 N1 D1) (hP : HasT w) :
  Calls Tryz.prog 9 #[v1, .int .u8 (t : Int)] w fun e w' => e = .returned (.bool true) ∧ Below w.heap.size w w' := by
 have HW := qH hworks
 have HA := qH (qA h1 hP)
 obtain ⟨a, b, off, nn, cc, a', b', off', n', cc', rfl, _⟩ := h1
 obtain ⟨F, hF⟩ : ∃ F : Nat → Nat → Rat, F = fun i j => drq N1 D1 (5 * i + j) := ⟨_, rfl⟩
 obtain ⟨B, hB⟩ : ∃ B : Nat → Rat, B = fun i => drq N1 D1 (1 + 3 * i) := ⟨_, rfl⟩
 obtain ⟨c4, h4⟩ : ∃ c4, c1 % 4 = c4 := ⟨_, rfl⟩
 obtain ⟨n, hn⟩ : ∃ n, 1 + c4 = n := ⟨_, rfl⟩
 obtain ⟨k, hk⟩ : ∃ k, t % n = k := ⟨_, rfl⟩
 have hn1 : 1 ≤ n := by omega
 have hn4 : n ≤ 4 := by omega
 have hkn : k < n := by rw [← hk]; exact qa3 _ (by omega)
 have HT := qH (fun (W : World) (h : Below w.heap.size w W) => qix n n (by omega) (by omega) r1 c1 N1 D1 _ W (HA.out.1.below h))
 have HL := qH (fun (W : World) (h : Below w.heap.size w W) => qgp n 1 (by omega) (by decide) r1 c1 N1 D1 _ W (HA.out.1.below h))
 rw [← hF] at HT
 rw [← hB] at HL
 have hSF : ∀ i j, Sm (F i j) := fun i j => by rw [hF]; exact qeE _ _ _
 have hSB : ∀ i, Sm (B i) := fun i => by rw [hB]; exact qeE _ _ _
 have HS := qH (qA hSF hSB)
 have e2 : (c1 : Int) % 4 = c4 := by omega
 have e4 : 1 + (c4 : Int) = n := by omega
 have e5 : (t : Int) % n = k := by rw [← hk]; exact (Int.natCast_emod t n).symm ▸ rfl
 have l2 : c4 < 4 := by omega
 clear hF hB hSF hSB h4 hn hk hP hworks
 obtain ⟨W1, hW1⟩ : ∃ W1, W1 = w.alloc (.cells #[.int .u8 (r1 : Int), .int .u8 (c1 : Int), .slice a nn cc, .slice a' n' cc'] 29) := ⟨_, rfl⟩
 have hb1 : Below w.heap.size w W1 := hW1 ▸ qbW qB qN
 have hr1 : W1.heap[w.heap.size]? = some (.cells #[.int .u8 (r1 : Int), .int .u8 (c1 : Int), .slice a nn cc, .slice a' n' cc'] 29 (0, 0)) := by rw [hW1]; exact qM _ _ _ rfl
 have H1 := qH (qA hb1 hr1)
 clear hb1 hr1
 go_enter Tryz.func9, Tryz.ntmps9
 go_wp2_with fail
 rw [← hW1]
 clear hW1
 refine (HW.out W1 (HA.out.2.below H1.out.1)).mono ?_
 rintro e w2 ⟨rfl, hb2⟩
 have R1 := zkeep hb2 _ _ H1.out.2
 have H2 := qH (qA (H1.out.1.trans (hb2.mono H1.out.1.size)) R1)
 have hst : Below w2.heap.size w2 w2 := Below.refl _ _
 have hstD : Below w2.heap.size w2 w2.drew := hst.drew
 have l0 := (qG R1).1
 have C0 : ∀ W, Below w2.heap.size w2 W → W.cell? ⟨w.heap.size, 0, none⟩ = some (.int .u8 (r1 : Int)) := fun W h => (h.cell (p := ⟨w.heap.size, 0, none⟩) l0).trans (cell_of_row _ _ 0 _ _ _ R1)
 have C1 : ∀ W, Below w2.heap.size w2 W → W.cell? ⟨w.heap.size, 1, none⟩ = some (.int .u8 (c1 : Int)) := fun W h => (h.cell (p := ⟨w.heap.size, 1, none⟩) l0).trans (cell_of_row _ _ 1 _ _ _ R1)
 have C2 : ∀ W, Below w2.heap.size w2 W → W.cell? ⟨w.heap.size, 2, none⟩ = some (.slice a nn cc) := fun W h => (h.cell (p := ⟨w.heap.size, 2, none⟩) l0).trans (cell_of_row _ _ 2 _ _ _ R1)
 have C3 : ∀ W, Below w2.heap.size w2 W → W.cell? ⟨w.heap.size, 3, none⟩ = some (.slice a' n' cc') := fun W h => (h.cell (p := ⟨w.heap.size, 3, none⟩) l0).trans (cell_of_row _ _ 3 _ _ _ R1)
 have k1 := C1 w2 hst
 clear hb2 R1
 go_wp2_with fail
 clear k1
 go_region_held3 (fun W => Below w2.heap.size w2 W) (first | with_reducible exact hst | with_reducible exact hstD | with_reducible exact V4 | with_reducible exact V3) (first | (go_at_call 39; refine (HT.out _ (H2.out.1.trans (hstD.mono H2.out.1.size))).mono ?_; rintro e w3 ⟨ga, gt, ct, rfl, hT, hct, hb3⟩; have V3 : Below w2.heap.size w2 w3 := hstD.trans (hb3.mono qN); have ha := hT.addr (by rw [qce]; omega); subst ha; have G3 := qH hT; clear hb3 hT) | (go_at_call 27; refine (HL.out _ (H2.out.1.trans (V3.mono H2.out.1.size))).mono ?_; rintro e w4 ⟨gb, gl, cl, rfl, hf4, hcl, hb4⟩; have ha := hf4.addr (by rw [qbZ]; omega); subst ha; have V4 : Below w2.heap.size w2 w4 := V3.trans (hb4.mono V3.size); have G4 := qH (qA (G3.out.below hb4) hf4); clear hb4 hf4))
 have H4 := qH (qA (H2.out.1.trans (V4.mono H2.out.1.size)) G4.out)
 clear C0 C1 C2 C3 l0 hst hstD V3 V4 G3 G4
 go_wp2_with fail
 refine (qjP hn1 hn4 HS.out.1 HS.out.2 H4.out.2.1 H4.out.2.2 (HA.out.2.below H4.out.1)).mono ?_
 rintro e w6 ⟨sa, ms, cs, ds, rfl, hs6, hb6⟩
 have H6 := qH (qA (H4.out.1.trans (hb6.mono H4.out.1.size)) (qA (H4.out.2.1.below hb6) (qA (H4.out.2.2.below hb6) hs6)))
 clear hb6 hs6
 have hki : (k : Int) ≤ n := by omega
 have hkc : (k : Int) ≤ ct := by omega
 have hkl : (k : Int) ≤ cl := by omega
 obtain ⟨vs, hrv, hvc⟩ := H6.out.2.1.vals
 have hvl : vs.length = n := by rw [hrv.1, qce]
 have HV := qH (qA hrv (qA hvc hvl))
 have hst : Below w6.heap.size w6 w6 := Below.refl _ _
 have hstD : Below w6.heap.size w6 w6.drew := hst.drew
 have hnk : n - k + k = n := by omega
 have hcne : ¬ ct = k := by omega
 have hlne : ¬ cl = k := by omega
 have hnk : n - k + k = n := by omega
 have hcne : ¬ ct = k := by omega
 have hlne : ¬ cl = k := by omega
 have hnk : n - k + k = n := by omega
 have hcne : ¬ ct = k := by omega
 have hlne : ¬ cl = k := by omega
 have hnk : n - k + k = n := by omega
 have hcne : ¬ ct = k := by omega
 have hlne : ¬ cl = k := by omega
 have hnk : n - k + k = n := by omega
 have hcne : ¬ ct = k := by omega
 have hlne : ¬ cl = k := by omega
 have hnk : n - k + k = n := by omega
 have hcne : ¬ ct = k := by omega
 have hlne : ¬ cl = k := by omega
 have hnk : n - k + k = n := by omega
 have hcne : ¬ ct = k := by omega
 have hlne : ¬ cl = k := by omega
 have hnk : n - k + k = n := by omega
 have hcne : ¬ ct = k := by omega
 have hlne : ¬ cl = k := by omega
 have hnk : n - k + k = n := by omega
 have hcne : ¬ ct = k := by omega
 have hlne : ¬ cl = k := by omega
 clear hrv hvc hvl
 go_wp2_with fail
 rw [e5]
 go_cut [11, 12] (fun x11 x12 W => TurnedAt w6 W n k F B x11 x12)
 case first =>
  go_region_held3 (fun W => Below w6.heap.size w6 W) (with_reducible first | assumption | exact Below.drew (by assumption) | exact qbW (by assumption) qN | exact Below.drew (qbW (by assumption) qN) | exact qbW (qbW (by assumption) qN) qN | exact Below.drew (qbW (qbW (by assumption) qN) qN) | exact qbW (Below.drew (by assumption)) qN | exact Below.refl _ _ | exact Below.drew qB | exact qbW qB qN | exact Below.drew (qbW qB qN) | exact qbW (qbW qB qN) qN | exact Below.drew (qbW (qbW qB qN) qN) | exact qbW (Below.drew qB) qN) (first
   | (go_at_call 44; refine (qiM _ 2 (n - k) k (ct - k) ct gt k gt 0 (vs.drop k) (vs.take k) _ (by omega) (by omega) (by rw [qaB, HV.out.2.2]) (by rw [qao, HV.out.2.2]; omega) (by first | exact (qeu w6 _ _ 22 rfl).below (by (with_reducible first | assumption | exact Below.drew (by assumption) | exact qbW (by assumption) qN | exact Below.drew (qbW (by assumption) qN) | exact qbW (qbW (by assumption) qN) qN | exact Below.drew (qbW (qbW (by assumption) qN) qN) | exact qbW (Below.drew (by assumption)) qN | exact Below.refl _ _ | exact Below.drew qB | exact qbW qB qN | exact Below.drew (qbW qB qN) | exact qbW (qbW qB qN) qN | exact Below.drew (qbW (qbW qB qN) qN) | exact qbW (Below.drew qB) qN)) | exact (qeu (w6.alloc _) _ _ 22 (by simp only [qaa])).below (by (with_reducible first | assumption | exact Below.drew (by assumption) | exact qbW (by assumption) qN | exact Below.drew (qbW (by assumption) qN) | exact qbW (qbW (by assumption) qN) qN | exact Below.drew (qbW (qbW (by assumption) qN) qN) | exact qbW (Below.drew (by assumption)) qN | exact Below.refl _ _ | exact Below.drew qB | exact qbW qB qN | exact Below.drew (qbW qB qN) | exact qbW (qbW qB qN) qN | exact Below.drew (qbW (qbW qB qN) qN) | exact qbW (Below.drew qB) qN))) (HV.out.2.1.drop0 k (by (with_reducible first | assumption | exact Below.drew (by assumption) | exact qbW (by assumption) qN | exact Below.drew (qbW (by assumption) qN) | exact qbW (qbW (by assumption) qN) qN | exact Below.drew (qbW (qbW (by assumption) qN) qN) | exact qbW (Below.drew (by assumption)) qN | exact Below.refl _ _ | exact Below.drew qB | exact qbW qB qN | exact Below.drew (qbW qB qN) | exact qbW (qbW qB qN) qN | exact Below.drew (qbW (qbW qB qN) qN) | exact qbW (Below.drew qB) qN))) (HV.out.2.1.take0 k (by (with_reducible first | assumption | exact Below.drew (by assumption) | exact qbW (by assumption) qN | exact Below.drew (qbW (by assumption) qN) | exact qbW (qbW (by assumption) qN) qN | exact Below.drew (qbW (qbW (by assumption) qN) qN) | exact qbW (Below.drew (by assumption)) qN | exact Below.refl _ _ | exact Below.drew qB | exact qbW qB qN | exact Below.drew (qbW qB qN) | exact qbW (qbW qB qN) qN | exact Below.drew (qbW (qbW qB qN) qN) | exact qbW (Below.drew qB) qN))) (fun u hu => HV.out.1.not u (List.mem_of_mem_drop hu)) (fun u hu => HV.out.1.not u (qbv hu))).mono ?_; rintro e w8 ⟨v8, rfl, hr8, hb8⟩; rw [hnk] at hr8; obtain ⟨ao8, g8, cp8, rfl, hv8, _⟩ := hr8.vcells; have V8 : Below w6.heap.size w6 w8 := bjoin (by (with_reducible first | assumption | exact Below.drew (by assumption) | exact qbW (by assumption) qN | exact Below.drew (qbW (by assumption) qN) | exact qbW (qbW (by assumption) qN) qN | exact Below.drew (qbW (qbW (by assumption) qN) qN) | exact qbW (Below.drew (by assumption)) qN | exact Below.refl _ _ | exact Below.drew qB | exact qbW qB qN | exact Below.drew (qbW qB qN) | exact qbW (qbW qB qN) qN | exact Below.drew (qbW (qbW qB qN) qN) | exact qbW (Below.drew qB) qN)) hb8; have K8 := qH hb8; have G8 := qH hv8; clear hb8 hr8 hv8)
   | (go_at_call 45; refine (qh4 _ 2 (n - k) k (cl - k) cl gl (k * 2) gl 0 ((told n B).drop k) ((told n B).take k) _ (by omega) (by omega) (by rw [qaB, qbZ]) (by rw [qao, qbZ]; omega) (by first | exact (qeu w6 _ _ 23 rfl).below (by (with_reducible first | assumption | exact Below.drew (by assumption) | exact qbW (by assumption) qN | exact Below.drew (qbW (by assumption) qN) | exact qbW (qbW (by assumption) qN) qN | exact Below.drew (qbW (qbW (by assumption) qN) qN) | exact qbW (Below.drew (by assumption)) qN | exact Below.refl _ _ | exact Below.drew qB | exact qbW qB qN | exact Below.drew (qbW qB qN) | exact qbW (qbW qB qN) qN | exact Below.drew (qbW (qbW qB qN) qN) | exact qbW (Below.drew qB) qN)) | exact (qeu (w6.alloc _) _ _ 23 (by simp only [qaa])).below (by (with_reducible first | assumption | exact Below.drew (by assumption) | exact qbW (by assumption) qN | exact Below.drew (qbW (by assumption) qN) | exact qbW (qbW (by assumption) qN) qN | exact Below.drew (qbW (qbW (by assumption) qN) qN) | exact qbW (Below.drew (by assumption)) qN | exact Below.refl _ _ | exact Below.drew qB | exact qbW qB qN | exact Below.drew (qbW qB qN) | exact qbW (qbW qB qN) qN | exact Below.drew (qbW (qbW qB qN) qN) | exact qbW (Below.drew qB) qN)) | exact (qeu w8 _ _ 23 rfl).below (by (with_reducible first | assumption | exact Below.drew (by assumption) | exact qbW (by assumption) qN | exact Below.drew (qbW (by assumption) qN) | exact qbW (qbW (by assumption) qN) qN | exact Below.drew (qbW (qbW (by assumption) qN) qN) | exact qbW (Below.drew (by assumption)) qN | exact Below.refl _ _ | exact Below.drew qB | exact qbW qB qN | exact Below.drew (qbW qB qN) | exact qbW (qbW qB qN) qN | exact Below.drew (qbW (qbW qB qN) qN) | exact qbW (Below.drew qB) qN)) | exact ((qeu w6 _ _ 23 rfl).below (by (with_reducible first | assumption | exact Below.drew (by assumption) | exact qbW (by assumption) qN | exact Below.drew (qbW (by assumption) qN) | exact qbW (qbW (by assumption) qN) qN | exact Below.drew (qbW (qbW (by assumption) qN) qN) | exact qbW (Below.drew (by assumption)) qN | exact Below.refl _ _ | exact Below.drew qB | exact qbW qB qN | exact Below.drew (qbW qB qN) | exact qbW (qbW qB qN) qN | exact Below.drew (qbW (qbW qB qN) qN) | exact qbW (Below.drew qB) qN))).below K8.out | exact ((qeu (w6.alloc _) _ _ 23 (by simp only [qaa])).below (by (with_reducible first | assumption | exact Below.drew (by assumption) | exact qbW (by assumption) qN | exact Below.drew (qbW (by assumption) qN) | exact qbW (qbW (by assumption) qN) qN | exact Below.drew (qbW (qbW (by assumption) qN) qN) | exact qbW (Below.drew (by assumption)) qN | exact Below.refl _ _ | exact Below.drew qB | exact qbW qB qN | exact Below.drew (qbW qB qN) | exact qbW (qbW qB qN) qN | exact Below.drew (qbW (qbW qB qN) qN) | exact qbW (Below.drew qB) qN))).below K8.out) (H6.out.2.2.1.drop0 k (by (with_reducible first | assumption | exact Below.drew (by assumption) | exact qbW (by assumption) qN | exact Below.drew (qbW (by assumption) qN) | exact qbW (qbW (by assumption) qN) qN | exact Below.drew (qbW (qbW (by assumption) qN) qN) | exact qbW (Below.drew (by assumption)) qN | exact Below.refl _ _ | exact Below.drew qB | exact qbW qB qN | exact Below.drew (qbW qB qN) | exact qbW (qbW qB qN) qN | exact Below.drew (qbW (qbW qB qN) qN) | exact qbW (Below.drew qB) qN))) (H6.out.2.2.1.take0 k (by (with_reducible first | assumption | exact Below.drew (by assumption) | exact qbW (by assumption) qN | exact Below.drew (qbW (by assumption) qN) | exact qbW (qbW (by assumption) qN) qN | exact Below.drew (qbW (qbW (by assumption) qN) qN) | exact qbW (Below.drew (by assumption)) qN | exact Below.refl _ _ | exact Below.drew qB | exact qbW qB qN | exact Below.drew (qbW qB qN) | exact qbW (qbW qB qN) qN | exact Below.drew (qbW (qbW qB qN) qN) | exact qbW (Below.drew qB) qN)))).mono ?_; rintro e w9 ⟨v9, rfl, hr9, hb9⟩; rw [hnk, ql3 n k hkn] at hr9; obtain ⟨ao9, g9, cp9, e9, hv9, _⟩ := qeC.of (w := w9) hr9 qB; cases e9; have V9 : Below w6.heap.size w6 w9 := bjoin (by (with_reducible first | assumption | exact Below.drew (by assumption) | exact qbW (by assumption) qN | exact Below.drew (qbW (by assumption) qN) | exact qbW (qbW (by assumption) qN) qN | exact Below.drew (qbW (qbW (by assumption) qN) qN) | exact qbW (Below.drew (by assumption)) qN | exact Below.refl _ _ | exact Below.drew qB | exact qbW qB qN | exact Below.drew (qbW qB qN) | exact qbW (qbW qB qN) qN | exact Below.drew (qbW (qbW qB qN) qN) | exact qbW (Below.drew qB) qN)) hb9; have G9 := qH (qA (G8.out.below (show Below w8.heap.size w8 w9 from (show Below w8.heap.size w8 _ by (with_reducible first | assumption | exact Below.drew (by assumption) | exact qbW (by assumption) qN | exact Below.drew (qbW (by assumption) qN) | exact qbW (qbW (by assumption) qN) qN | exact Below.drew (qbW (qbW (by assumption) qN) qN) | exact qbW (Below.drew (by assumption)) qN | exact Below.refl _ _ | exact Below.drew qB | exact qbW qB qN | exact Below.drew (qbW qB qN) | exact qbW (qbW qB qN) qN | exact Below.drew (qbW (qbW qB qN) qN) | exact qbW (Below.drew qB) qN)).trans (hb9.mono (by first | exact qaf _ | simp only [qaa]; omega)))) hv9); clear hb9 hr9 hv9)
   | (go_at_call 18; refine (qjP (F := fun i => F ((i + k) % n)) (B := fun i => B ((i + k) % n)) hn1 hn4 (fun i j => HS.out.1 _ _) (fun i => HS.out.2 _) (by have h := ((HV.out.1.below V9).dropped k).append ((HV.out.1.below V9).taken k); rw [ql5 n n k hkn] at h; exact h.tcells G9.out.1) G9.out.2 (HA.out.2.below (H6.out.1.trans (V9.mono H6.out.1.size)))).mono ?_; rintro e w10 ⟨a10, m10, cp10, d10, rfl, hs10, hb10⟩; have V10 : Below w6.heap.size w6 w10 := V9.trans (hb10.mono V9.size); have G10 := qH hs10; clear hb10 hs10))
  all_goals go_wp2_with fail
  all_goals go_meet
  all_goals exact ⟨a10, m10, cp10, d10, rfl, rfl, G10.out, V10⟩
 case rest =>
 obtain ⟨sa2, ms2, cs2, ds2, rfl, rfl, hs2, hb10⟩ := hcut
 have hs1 := H6.out.2.2.2.below hb10
 have hsol := qi6 hkn hs1 hs2
 have H10 := qH (qA (H6.out.1.trans (hb10.mono H6.out.1.size)) (qA (H6.out.2.1.below hb10) (H6.out.2.2.1.below hb10)))
 have HSol := qH hsol
 clear hs1 hs2 hb10 hsol hst hstD HV
 go_wp2_with fail
 refine (qd0 hn1 (by omega) hn1 (by omega) (fun i _ => fun j _ => (HS.out.1 i j).short) H10.out.2.1).mono ?_
 rintro e w11 ⟨⟨rk, hrk, rfl⟩, hb11⟩
 have hrs := qlD hrk
 have H11 := qH (qA (H10.out.1.trans (hb11.mono H10.out.1.size)) (qA (H10.out.2.1.below hb11) (H10.out.2.2.below hb11)))
 rcases HSol.out with ⟨hsg, rfl, rfl, rfl, rfl, rfl, rfl⟩ | ⟨hns, x, gx, gy, hx, hsx, rfl, rfl, hm1, hm2, rfl, rfl, hf1, hf2⟩
 ·have hne : ¬ rk = n := fun h => hrs.1 h hsg
  have hnei : ((rk : Int) == (n : Int)) = false := by rw [beq_eq_false_iff_ne]; omega
  have hsame := qgw none 0 0 0 cs [] none 0 0 0 cs2 [] w11 rfl (by decide) ⟨fun h => absurd h (by decide), fun k h => absurd h (by simp)⟩ rfl (by decide) ⟨fun h => absurd h (by decide), fun k h => absurd h (by simp)⟩
  have HSm := qH hsame
  clear hsame hrs hrk hb11 HSol hne
  go_wp2_with fail
  refine HSm.out.mono ?_
  rintro e w12 ⟨ok, rfl, hok, hb12⟩
  obtain rfl : ok = true := hok.2 rfl
  have H12 := qH (H11.out.1.trans (hb12.mono H11.out.1.size))
  clear hok hb12
  go_wp2_with fail
  go_ret
  exact ⟨rfl, H12.out⟩
 ·obtain rfl : ms = n := hm1
  obtain rfl : ms2 = ms := hm2
  obtain rfl : rk = ms2 := hrs.2 hns
  have hes := qgF hn4 HS.out.1 HS.out.2 hns hx
  have HX := qH (qA hx (qA hsx (qA hes.2 (hf1.below hb11))))
  have hsame := qgw (some ⟨gx, 0, none⟩) gx 0 rk cs (told rk x) (some ⟨gy, 0, none⟩) gy 0 rk cs2 (told rk x) w11 (qbZ _ _) (by omega) (hf1.below hb11) (qbZ _ _) (by omega) (hf2.below hb11)
  have HSm := qH hsame
  clear hsame hrs hrk hb11 HSol hns hx hsx hes hf1 hf2
  go_wp2_with fail
  refine HSm.out.mono ?_
  rintro e w12 ⟨ok, rfl, hok, hb12⟩
  obtain rfl : ok = true := hok.2 rfl
  have H12 := qH (qA (H11.out.1.trans (hb12.mono H11.out.1.size)) (qA (H11.out.2.1.below hb12) (qA (H11.out.2.2.below hb12) (HX.out.2.2.2.below hb12))))
  clear hok hb12
  have HK := qH (fun (i : Nat) (W : World) (h : Below w12.heap.size w12 W) (hin : i < rk) (ra : Option Addr) (rb ro rc : Nat) (hrf : FCells W ra rb ro (told rk (F i))) => qct ra rb ro rc (some ⟨gx, 0, none⟩) gx 0 cs rk (F i) x W (by omega) (by omega) (HA.out.2.below (H12.out.1.trans (h.mono H12.out.1.size))) hrf (H12.out.2.2.2.below h) (fun m hm => (HX.out.2.2.1 i m hm).1) (fun j hj => (HX.out.2.2.1 i rk qN).2 j hj) (fun j _ => (HS.out.1 i j).short) HX.out.2.1)
  have HE := qH HX.out.1
  go_wp2_with fail
  go_loopw [15, 16, 93] (fun _ _ x93 W => ∃ i : Nat, i ≤ rk ∧ x93 = .int .i64 i ∧ Hid (Below w12.heap.size w12 W)) (fun _ _ x93 _ => rk - (intOf x93).toNat)
  case atStart => exact ⟨0, qaq _, rfl, qH qB⟩
  case round =>
   obtain ⟨i, hi, rfl, hB⟩ := hrel
   by_cases hin : i < rk
   ·have hii : (i : Int) < rk := by omega
    obtain ⟨ra, rb, ro, rc, hc, hrf⟩ := (H12.out.2.1.below hB.out).row i (by rw [qce]; exact hin)
    rw [qdi hin, qbZ, qaK] at hc
    rw [qdi hin] at hrf
    obtain ⟨b1, b2, hbt⟩ := qd2 (B i)
    have hst : Below wr.heap.size wr wr := Below.refl _ _
    have hstD : Below wr.heap.size wr wr.drew := hst.drew
    have k1 : ∀ W, Below wr.heap.size wr W → W.cell? ⟨gl, i * 2, none⟩ = some (.string b1) := fun W h => by have := (qdC ((H12.out.2.2.1.below hB.out).below h) hin hbt).1; rwa [qaK] at this
    have k2 : ∀ W, Below wr.heap.size wr W → W.cell? ⟨gl, i * 2 + 1, none⟩ = some (.string b2) := fun W h => by have := (qdC ((H12.out.2.2.1.below hB.out).below h) hin hbt).2; rwa [qaK] at this
    have he : fstr (sumQ rk fun j => F i j * x j) = .agg #[.string b1, .string b2] := by rw [HE.out i hin, qdG, hbt]
    have HC := HK.out i wr.drew (hB.out.trans (hstD.mono hB.out.size)) hin ra rb ro rc (hrf.below hstD)
    rw [he] at HC
    have HC2 := qH HC
    clear HC he hrf hbt
    go_wp2_with fail
    go_region_held3 (fun W => Below wr.heap.size wr W) (first | with_reducible exact hst | with_reducible exact hstD | with_reducible exact V14) (first | (go_at_call 46; refine HC2.out.mono ?_; rintro e w14 ⟨rfl, hb14⟩; have V14 : Below wr.heap.size wr w14 := hstD.trans (hb14.mono qN); clear hb14))
    have HB14 := qH (hB.out.trans (V14.mono hB.out.size))
    clear k1 k2 hc hst hstD V14
    go_wp2_with fail
    go_roundw
    case rel => exact ⟨i + 1, hin, by go_num, HB14⟩
    case measure => simp [intOf]; omega
   ·obtain rfl : i = rk := by omega
    go_wp2_with fail
    go_ret
    exact ⟨rfl, H12.out.1.trans (hB.out.mono H12.out.1.size)⟩
theorem Sm.mul_short {p q : Rat} (hp : Sm p) (hq : Sm q) : Short (p * q) := by
 obtain ⟨a, ha, la⟩ := hp
 obtain ⟨b, hb, lb⟩ := hq
 have e : p * q = ((a * b : Int) : Rat) / ((3600 : Int) : Rat) := by
  push_cast
  rw [← ha, ← hb, qbf]
  have h3 : (3600 : Rat) * (3600 : Rat)⁻¹ = 1 := qbc _ (by decide)
  grind
 refine qdy (N := 1440000) (qgc (by decide) ?_ (by decide) e) (by decide +kernel)
 rw [qax]
 exact qbe la lb
theorem Sm.add_short {p q s : Rat} (hp : Sm p) (hq : Sm q) (hs : Sm s) : Short (p + q * s) := by
 obtain ⟨a, ha, la⟩ := hp
 obtain ⟨b, hb, lb⟩ := hq
 obtain ⟨c, hc, lc⟩ := hs
 have e : p + q * s = ((60 * a + b * c : Int) : Rat) / ((3600 : Int) : Rat) := by
  push_cast
  rw [← ha, ← hb, ← hc, qbf]
  have h3 : (3600 : Rat) * (3600 : Rat)⁻¹ = 1 := qbc _ (by decide)
  grind
 refine qdy (N := 2000000) (qgc (by decide) ?_ (by decide) e) (by decide +kernel)
 have h1 : (b * c).natAbs ≤ 1440000 := by rw [qax]; exact qbe lb lc
 omega
theorem qlC {R n k l : Nat} {A B : Nat → Nat → Rat} (h : qcq R n A k) (h2 : qcq (R + 1) n B l) (e : ∀ i, i < R → ∀ j, j < n → A i j = B i j) : k ≤ l ∧ l ≤ k + 1 := by
 rcases (h.congr e).more with h' | h'
 ·have := h'.uniq h2 (qcR.refl _ _ _); omega
 ·have := h'.uniq h2 (qcR.refl _ _ _); omega
theorem vnew1 (W : World) (u : Value) (e : TypeId) {g : Nat} (hg : g = W.heap.size) : VCells (W.alloc (.cells #[u] e)) (some ⟨g, 0, none⟩) g 0 [u] := by
 subst hg
 refine ⟨fun _ => rfl, fun k hk => ?_⟩
 obtain rfl : k = 0 := by simp at hk; omega
 exact cell_of_row _ _ 0 _ _ _ (heap_alloc_new W _)
theorem slc_one {a : Option Addr} {n c : Nat} : ∀ u ∈ [Value.slice a n c], qcv u ∧ u.oneCell' = true := fun u hu => by
 rw [qar.1 hu]; exact ⟨qcX _ _ _, rfl⟩
theorem Rws.told {W : World} {B n m c : Nat} {ra : Option Addr} {f : Nat → Rat} (h : Rws W B 46 2 (.slice ra m c) n (fflat (told n f))) : m = n ∧ ∃ rb, FCells W ra rb 0 (told n f) := by
 obtain ⟨ao, g, cp, e, hf, _⟩ := qeC.of (w := W) h qB
 cases e
 exact ⟨rfl, g, hf⟩
theorem ttab_rev (R n : Nat) (F : Nat → Nat → Rat) : (ttab R n F).reverse = ttab R n fun i => F (R - 1 - i) := by
 unfold ttab
 apply qbA
 intro k
 by_cases h : k < R
 ·rw [List.getElem?_reverse (by simpa using h), qaG, qbq, qaA, qaA, qaV (by omega), qaV h]; rfl
 ·rw [qay (by simp; omega), qay (by simp; omega)]
theorem qcr.rev {W : World} {vs : List Value} {t : Tbl} (h : qcr W vs t) : qcr W vs.reverse t.reverse :=
 ⟨by rw [qbN, qbN, h.1], fun k hk => by
  rw [qbN] at hk
  obtain ⟨ra, rb, ro, rc, h1, h2⟩ := h.2 (t.length - 1 - k) (by omega)
  have e1 : vs.reverse.getD k undef = vs.getD (t.length - 1 - k) undef := by rw [qab, List.getElem?_reverse (by rw [h.1]; exact hk), h.1, ← qab]
  have e2 : t.reverse.getD k [] = t.getD (t.length - 1 - k) [] := by rw [qab, List.getElem?_reverse hk, ← qab]
  rw [e1, e2]
  exact ⟨ra, rb, ro, rc, h1, h2⟩⟩
theorem qcr.slices {W : World} {vs : List Value} {t : Tbl} (h : qcr W vs t) : ∀ u ∈ vs, ∃ (a : Option Addr) (m c : Nat), u = .slice a m c := fun u hu => by
 obtain ⟨k, hk, rfl⟩ := List.getElem_of_mem hu
 obtain ⟨ra, rb, ro, rc, h1, _⟩ := h.2 k (by rw [← h.1]; exact hk)
 rw [qab, qai hk] at h1
 exact ⟨_, _, _, h1⟩
theorem qcr.put {W : World} {vs : List Value} {t : Tbl} (h : qcr W vs t) {i m : Nat} {l : List FT} {ra : Option Addr} {rb ro rc : Nat} (hl : l.length = m) (hf : FCells W ra rb ro l) : qcr W (vs.set i (.slice ra m rc)) (t.set i l) :=
 ⟨by rw [qaO, qaO, h.1], fun k hk => by
  rw [qaO] at hk
  by_cases e : k = i
  ·subst e
   refine ⟨ra, rb, ro, rc, ?_, ?_⟩
   ·rw [qab, qbt (by rw [h.1]; exact hk), qab, qbt hk, ← hl]; rfl
   ·rw [qab, qbt hk]; exact hf
  ·obtain ⟨ra', rb', ro', rc', h1, h2⟩ := h.2 k hk
   refine ⟨ra', rb', ro', rc', ?_, ?_⟩
   ·rw [qab, qbB (by omega), ← qab, h1, qab, qab, qbB (by omega)]
   ·rw [qab, qbB (by omega), ← qab]; exact h2⟩
theorem ttab_set (R n i : Nat) (F : Nat → Nat → Rat) (f : Nat → Rat) : (ttab R n F).set i (told n f) = ttab R n fun k => if k = i then f else F k := by
 unfold ttab
 apply qbA
 intro k
 by_cases e : k = i
 ·subst e
  by_cases h : k < R
  ·rw [qbt (by simpa using h), qaA, qaV h]
   show some (told n f) = some (told n (if k = k then f else F k))
   rw [if_pos rfl]
  ·rw [qay (by simp; omega), qay (by simp; omega)]
 ·rw [qbB (by omega), qaA, qaA]
  by_cases h : k < R
  ·rw [qaV h]
   show some (told n (F k)) = some (told n (if k = i then f else F k))
   rw [if_neg e]
  ·rw [qay (by simp; omega)]; rfl
theorem told_set (n i : Nat) (f : Nat → Rat) (q : Rat) : (told n f).set i (ftxt q) = told n fun k => if k = i then q else f k := by
 unfold told
 apply qbA
 intro k
 by_cases e : k = i
 ·subst e
  by_cases h : k < n
  ·rw [qbt (by simpa using h), qaA, qaV h]
   show some (ftxt q) = some (ftxt (if k = k then q else f k))
   rw [if_pos rfl]
  ·rw [qay (by simp; omega), qay (by simp; omega)]
 ·rw [qbB (by omega), qaA, qaA]
  by_cases h : k < n
  ·rw [qaV h]
   show some (ftxt (f k)) = some (ftxt (if k = i then q else f k))
   rw [if_neg e]
  ·rw [qay (by simp; omega)]; rfl
theorem qic : ∀ (l : List FT) (i : Nat) (x : FT), i < l.length → ((fflat l).set (i * 2) (.string x.1)).set (i * 2 + 1) (.string x.2) = fflat (l.set i x)
 | [], i, _, h => by simp at h
 | y :: l, 0, x, _ => rfl
 | y :: l, i + 1, x, h => by
  have ih := qic l i x (by simpa using h)
  rw [show (i + 1) * 2 = i * 2 + 1 + 1 by omega]
  show .string y.1 :: .string y.2 :: (((fflat l).set (i * 2) (.string x.1)).set (i * 2 + 1) (.string x.2)) = _
  rw [ih]; rfl
theorem qkW {l : List FT} {j : Nat} (hj : j < l.length) (x : FT) (r : List Value) : ((fflat l ++ r).toArray.setIfInBounds (j * 2) (.string x.1)).setIfInBounds (j * 2 + 1) (.string x.2) = (fflat (l.set j x) ++ r).toArray := by
 rw [qac, qac, List.set_append_left _ _ (by rw [qcw]; omega), List.set_append_left _ _ (by rw [qaO, qcw]; omega), qic l j x hj]
theorem FCells.stored {W : World} {ao : Option Addr} {b off : Nat} {l : List FT} (h : FCells W ao b off l) {p : Addr} {a : Option Addr} {n c : Nat} (hp : W.cell? p = some (.slice a n c)) (v : Value) : FCells (W.setCell p v) ao b off l :=
 ⟨h.addr, fun k hk => by
  obtain ⟨h1, h2⟩ := h.cell k hk
  exact ⟨(World.cell?_setCell_other _ _ _ _ fun e => by rw [← e, hp] at h1; cases h1).trans h1, (World.cell?_setCell_other _ _ _ _ fun e => by rw [← e, hp] at h2; cases h2).trans h2⟩⟩
theorem qcr.stored {W : World} {vs : List Value} {t : Tbl} (h : qcr W vs t) {p : Addr} {a : Option Addr} {n c : Nat} (hp : W.cell? p = some (.slice a n c)) (v : Value) : qcr (W.setCell p v) vs t :=
 ⟨h.1, fun k hk => by
  obtain ⟨ra, rb, ro, rc, h1, h2⟩ := h.2 k hk
  exact ⟨ra, rb, ro, rc, h1, h2.stored hp v⟩⟩
theorem Rws.open {w : World} {base n size : Nat} {e : TypeId} {v : Value} {xs : List Value} (h : Rws w base e size v n xs) (hn : 0 < n) :
  ∃ (g cap : Nat) (r : List Value), v = .slice (some ⟨g, 0, none⟩) n cap ∧ base ≤ g ∧ n ≤ cap ∧ w.heap[g]? = some (.cells (xs ++ r).toArray e (0, 0)) ∧ (∀ (W : World) (ys : List Value), ys.length = xs.length → (∀ y ∈ ys, qcv y) → W.heap[g]? = some (.cells (ys ++ r).toArray e (0, 0)) → Rws W base e size (.slice (some ⟨g, 0, none⟩) n cap) n ys) := by
 have hl := h.1
 rcases h.2 with ⟨_, h0⟩ | ⟨g, cap, cur, rfl, hbg, hg, hnc, hcm, hcs, htake, hcn⟩
 ·omega
 obtain ⟨r, hr⟩ : ∃ r, cur = (xs ++ r).toArray := ⟨cur.toList.drop (n * size), by rw [← htake, qa5]⟩
 refine ⟨g, cap, r, rfl, hbg, hnc, by rw [← hr]; exact hg, fun W ys hy hyn hW => ⟨by rw [hy]; exact hl, .inr ⟨g, cap, _, rfl, hbg, hW, hnc, hcm, ?_, ?_, ?_⟩⟩⟩
 ·rw [← hcs, hr]; simp [hy]
 ·rw [List.toList_toArray, ← hl, ← hy, List.take_left]
 ·intro x hx
  rw [List.toList_toArray] at hx
  rcases qa4.1 hx with h | h
  ·exact hyn x h
  ·exact hcn x (by rw [hr]; simp [h])
theorem ttab_add (R n : Nat) (F G : Nat → Nat → Rat) : ttab R n F ++ ttab 1 n G = ttab (R + 1) n fun i => if i < R then F i else G (i - R) := by
 unfold ttab
 apply qbA
 intro k
 by_cases h : k < R
 ·rw [qaC (by simpa using h), qaA, qaA, qaV h, qaV (by omega)]
  show some (told n (F k)) = some (told n (if k < R then F k else _))
  rw [if_pos h]
 ·rw [qaF (by simp; omega), qaG, qbq, qaA, qaA]
  by_cases h2 : k = R
  ·subst h2
   rw [qaQ, qaV (by decide), qaV (by omega)]
   show some (told n (G 0)) = some (told n (if k < k then _ else G (k - k)))
   rw [if_neg (by omega), qaQ]
  ·rw [qay (by rw [qbq]; omega), qay (by rw [qbq]; omega)]
   rfl
end Go.Proofs.YtfminfgabiipjaaGreatDoor
