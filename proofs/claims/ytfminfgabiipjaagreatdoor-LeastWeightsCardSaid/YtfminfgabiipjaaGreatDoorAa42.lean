/- Aa, part 42: Wk0 Wz Gs -/
import Derived.Deep.RegionHeld3
import Derived.Test.YtfminfgabiipjaaGreatDoorAa0
import Derived.Test.YtfminfgabiipjaaGreatDoorAa41
set_option maxRecDepth 100000
set_option maxHeartbeats 16000000
namespace Go.Proofs.YtfminfgabiipjaaGreatDoor
open Go.RowKit
theorem qcI {R n : Nat} {f : Nat → Nat → Rat} (h : ∀ i, i < R → ∀ j, j < n → (f i j).num.natAbs ≤ 1000 ∧ (f i j).den ≤ 1000) : ∀ i, i < R → qcc n (f i) := fun i hi => qci (h i hi)
theorem qgk {n k : Nat} {A : Nat → Nat → Rat} (σ : Nat → Nat) (hσ : ∀ s, s < k → σ s < n ∧ A s (σ s) ≠ 0 ∧ ∀ i, i < k → s < i → A i (σ s) = 0) : qcy k n A k :=
 qcy.steps qN σ (fun s hs => ⟨(hσ s hs).1, (hσ s hs).2.1, fun i h1 h2 => (hσ s hs).2.2 i h2 h1⟩) (fun i h1 h2 => absurd h1 (by omega))
theorem qhz.sing {n : Nat} {f : Nat → Nat → Rat} {b : Nat → Rat} {e : Ending} {w' : World} (h : qhz n f b e w') (hs : Sing n f) : e = .returned (.tuple #[.slice none 0 0, .int .i64 7]) := by
 rcases h with ⟨_, h⟩ | ⟨h, _⟩
 ·exact h
 ·exact absurd hs h
theorem qeR.sing {R n : Nat} {f : Nat → Nat → Rat} {b v : Nat → Rat} {e : Ending} {w' : World} (h : qeR R n f b v e w') (hs : Sing n (normR R n f b v)) : e = .returned (.tuple #[.slice none 0 0, .int .i64 7]) := by
 rcases h with ⟨_, h⟩ | ⟨h, _⟩
 ·exact h
 ·exact absurd hs h
theorem qmE {R n m : Nat} {f : Nat → Nat → Rat} {b : Nat → Rat} {ao : Option Addr} {g c : Nat} {ao2 : Option Addr} {g2 c2 : Nat} {w : World} (h1 : 1 ≤ R) (h2 : R ≤ 40) (h3 : 1 ≤ n) (h4 : n ≤ 10) (hm : m ≤ 1000) (hf : ∀ i, i < R → qcc n (f i)) (hb : qcc m b) (hne : ¬ (m = R ∧ R = n)) (hT : TCells w ao g 0 (ttab R n f)) (hF : FCells w ao2 g2 0 (told m b)) (hP : HasT w) :
  Calls Tryz.prog 18 #[.slice ao R c, .slice ao2 m c2] w fun e w' => e = .returned (.tuple #[.slice none 0 0, .int .i64 2]) ∧ Below w.heap.size w w' := by
 refine (qhS ao g 0 R c _ ao2 g2 0 m c2 _ w (qch _ _ _) (by omega) (qey (by omega)) hT (qb2 _ _) (by omega) hF hP).mono ?_
 rintro e w' ⟨h, hb'⟩
 refine ⟨?_, hb'⟩
 rcases h with h | h | h | h
 ·exact absurd (qgr h1 h2 h3 h4 hf) h.1
 ·exact absurd (qdd hb) h.2.1
 ·exact h.2.2.2
 ·exact absurd ⟨by have := h.2.2.1; rwa [qb2, qch] at this, by have := h.2.2.2.1; rwa [qch, qdV h1] at this⟩ hne
theorem meas_neg {R n : Nat} {f : Nat → Nat → Rat} {b v x : Nat → Rat} {ao : Option Addr} {g c : Nat} {ao2 : Option Addr} {g2 c2 : Nat} {ao3 : Option Addr} {g3 c3 : Nat} {ao4 : Option Addr} {g4 c4 : Nat} {w : World} (h1 : 1 ≤ R) (h2 : R ≤ 40) (h3 : 1 ≤ n) (h4 : n ≤ 10) (hf : ∀ i, i < R → qcc n (f i)) (hb : qcc R b) (hv : qcc R v) (hx : qcc n x) (hv0 : ∃ i, i < R ∧ (v i).num < 0) (hT : TCells w ao g 0 (ttab R n f)) (hF : FCells w ao2 g2 0 (told R b)) (hF3 : FCells w ao3 g3 0 (told R v)) (hF4 : FCells w ao4 g4 0 (told n x)) (hP : HasT w) :
  Calls Tryz.prog 24 #[.slice ao R c, .slice ao2 R c2, .slice ao3 R c3, .slice ao4 n c4] w fun e w' => e = .returned (.tuple #[.agg #[.string ⟨#[]⟩, .string ⟨#[]⟩], .int .i64 2]) ∧ Below w.heap.size w w' := by
 have hneg : Neg (told R v) := by
  obtain ⟨i, hi, hlt⟩ := hv0
  refine ⟨i, by rw [qb2]; exact hi, ?_⟩
  rw [qdP hi, show (ftxt (v i)).1.data.toList = itxt (v i).num from rfl, qdw]; exact hlt
 refine (qgw ao g 0 R c _ ao2 g2 0 R c2 _ ao3 g3 0 R c3 _ ao4 g4 0 n c4 _ w (qch _ _ _) (by omega) (qey (by omega)) hT (qb2 _ _) (by omega) hF (qb2 _ _) (by omega) hF3 (qb2 _ _) (by omega) hF4 hP).mono ?_
 rintro e w' ⟨h, hb'⟩
 refine ⟨?_, hb'⟩
 rcases h with h | h | h | h
 ·exact absurd (qgr h1 h2 h3 h4 hf) h.1
 ·exact absurd ⟨qdd hb, qdd hv, qdd hx⟩ h.2.1
 ·exact h.2.2.2.2.2
 ·exact absurd hneg h.2.2.2.2.2.2.2.1
theorem qfF {W : World} {ao : Option Addr} {g n : Nat} {x : Nat → Rat} {x1 x2 : ByteArray} (hf : FCells W ao g 0 (told n x)) (hn : 0 < n) (hq : ftxt (x 0) = (x1, x2)) : W.cell? ⟨g, 0, none⟩ = some (.string x1) ∧ W.cell? ⟨g, 1, none⟩ = some (.string x2) := by
 obtain ⟨h1, h2⟩ := hf.cell 0 (by rw [qb2]; exact hn)
 rw [qdP hn, hq] at h1 h2
 exact ⟨h1, h2⟩
theorem qiz {ao : Option Addr} {g R c : Nat} {t : Tbl} {w : World} (hR : t.length = R) (hl : R ≤ 1000) (hw : ∀ k, k < R → (t.getD k []).length ≤ 1000) (hT : TCells w ao g 0 t) (hn : ¬ TOk t) :
  Calls Tryz.prog 12 #[.slice ao R c] w fun e w' => e = .returned (.int .i64 60) ∧ Below w.heap.size w w' := by
 refine (qgW ao g 0 R c t w hR (by omega) (fun k hk => qam (hw k hk) (by decide)) hT).mono ?_
 rintro e w' ⟨c, rfl, h, hb⟩
 rcases h with h | h
 ·first | exact absurd h.2 hn | exact absurd h.1 hn
 ·exact ⟨by rw [h.1], hb⟩
theorem q_1 (W : World) :
  Calls Tryz.prog 30 #[.slice (some ⟨W.heap.size, 0, none⟩) 1 1] (W.alloc (.cells #[.string ⟨#[49]⟩] 9)) fun e w' => ∃ (ao : Option Addr) (g c : Nat), e = .returned (.slice ao 1 c) ∧ FCells w' ao g 0 (told 1 (fv [(1 : Rat)])) ∧ Below W.heap.size W w' :=
 q_lit W [⟨#[49]⟩] [(1 : Rat)] 1 rfl rfl (by decide) (by simp only [qaO, qaV, ft_1]; decide +kernel) (by decide)
theorem q_2 (W : World) :
  Calls Tryz.prog 30 #[.slice (some ⟨W.heap.size, 0, none⟩) 1 1] (W.alloc (.cells #[.string ⟨#[50]⟩] 9)) fun e w' => ∃ (ao : Option Addr) (g c : Nat), e = .returned (.slice ao 1 c) ∧ FCells w' ao g 0 (told 1 (fv [(2 : Rat)])) ∧ Below W.heap.size W w' :=
 q_lit W [⟨#[50]⟩] [(2 : Rat)] 1 rfl rfl (by decide) (by simp only [qaO, qaV, ft_2]; decide +kernel) (by decide)
theorem q_2_1 (W : World) :
  Calls Tryz.prog 30 #[.slice (some ⟨W.heap.size, 0, none⟩) 2 2] (W.alloc (.cells #[.string ⟨#[50]⟩, .string ⟨#[49]⟩] 9)) fun e w' => ∃ (ao : Option Addr) (g c : Nat), e = .returned (.slice ao 2 c) ∧ FCells w' ao g 0 (told 2 (fv [(2 : Rat), 1])) ∧ Below W.heap.size W w' :=
 q_lit W [⟨#[50]⟩, ⟨#[49]⟩] [(2 : Rat), 1] 2 rfl rfl (by decide) (by simp only [qaO, qaV, ft_1, ft_2]; decide +kernel) (by decide)
theorem q_1_3 (W : World) :
  Calls Tryz.prog 30 #[.slice (some ⟨W.heap.size, 0, none⟩) 2 2] (W.alloc (.cells #[.string ⟨#[49]⟩, .string ⟨#[51]⟩] 9)) fun e w' => ∃ (ao : Option Addr) (g c : Nat), e = .returned (.slice ao 2 c) ∧ FCells w' ao g 0 (told 2 (fv [(1 : Rat), 3])) ∧ Below W.heap.size W w' :=
 q_lit W [⟨#[49]⟩, ⟨#[51]⟩] [(1 : Rat), 3] 2 rfl rfl (by decide) (by simp only [qaO, qaV, ft_1, ft_3]; decide +kernel) (by decide)
theorem q_3_5 (W : World) :
  Calls Tryz.prog 30 #[.slice (some ⟨W.heap.size, 0, none⟩) 2 2] (W.alloc (.cells #[.string ⟨#[51]⟩, .string ⟨#[53]⟩] 9)) fun e w' => ∃ (ao : Option Addr) (g c : Nat), e = .returned (.slice ao 2 c) ∧ FCells w' ao g 0 (told 2 (fv [(3 : Rat), 5])) ∧ Below W.heap.size W w' :=
 q_lit W [⟨#[51]⟩, ⟨#[53]⟩] [(3 : Rat), 5] 2 rfl rfl (by decide) (by simp only [qaO, qaV, ft_3, ft_5]; decide +kernel) (by decide)
theorem q_1_2 (W : World) :
  Calls Tryz.prog 30 #[.slice (some ⟨W.heap.size, 0, none⟩) 2 2] (W.alloc (.cells #[.string ⟨#[49]⟩, .string ⟨#[50]⟩] 9)) fun e w' => ∃ (ao : Option Addr) (g c : Nat), e = .returned (.slice ao 2 c) ∧ FCells w' ao g 0 (told 2 (fv [(1 : Rat), 2])) ∧ Below W.heap.size W w' :=
 q_lit W [⟨#[49]⟩, ⟨#[50]⟩] [(1 : Rat), 2] 2 rfl rfl (by decide) (by simp only [qaO, qaV, ft_1, ft_2]; decide +kernel) (by decide)
theorem q_2_4 (W : World) :
  Calls Tryz.prog 30 #[.slice (some ⟨W.heap.size, 0, none⟩) 2 2] (W.alloc (.cells #[.string ⟨#[50]⟩, .string ⟨#[52]⟩] 9)) fun e w' => ∃ (ao : Option Addr) (g c : Nat), e = .returned (.slice ao 2 c) ∧ FCells w' ao g 0 (told 2 (fv [(2 : Rat), 4])) ∧ Below W.heap.size W w' :=
 q_lit W [⟨#[50]⟩, ⟨#[52]⟩] [(2 : Rat), 4] 2 rfl rfl (by decide) (by simp only [qaO, qaV, ft_2, ft_4]; decide +kernel) (by decide)
theorem q_0 (W : World) :
  Calls Tryz.prog 30 #[.slice (some ⟨W.heap.size, 0, none⟩) 1 1] (W.alloc (.cells #[.string ⟨#[48]⟩] 9)) fun e w' => ∃ (ao : Option Addr) (g c : Nat), e = .returned (.slice ao 1 c) ∧ FCells w' ao g 0 (told 1 (fv [(0 : Rat)])) ∧ Below W.heap.size W w' :=
 q_lit W [⟨#[48]⟩] [(0 : Rat)] 1 rfl rfl (by decide) (by simp only [qaO, qaV, ft_0]; decide +kernel) (by decide)
theorem q_1_0_1 (W : World) :
  Calls Tryz.prog 30 #[.slice (some ⟨W.heap.size, 0, none⟩) 3 3] (W.alloc (.cells #[.string ⟨#[49]⟩, .string ⟨#[48]⟩, .string ⟨#[49]⟩] 9)) fun e w' => ∃ (ao : Option Addr) (g c : Nat), e = .returned (.slice ao 3 c) ∧ FCells w' ao g 0 (told 3 (fv [(1 : Rat), 0, 1])) ∧ Below W.heap.size W w' :=
 q_lit W [⟨#[49]⟩, ⟨#[48]⟩, ⟨#[49]⟩] [(1 : Rat), 0, 1] 3 rfl rfl (by decide) (by simp only [qaO, qaV, ft_0, ft_1]; decide +kernel) (by decide)
theorem q_0_1_1 (W : World) :
  Calls Tryz.prog 30 #[.slice (some ⟨W.heap.size, 0, none⟩) 3 3] (W.alloc (.cells #[.string ⟨#[48]⟩, .string ⟨#[49]⟩, .string ⟨#[49]⟩] 9)) fun e w' => ∃ (ao : Option Addr) (g c : Nat), e = .returned (.slice ao 3 c) ∧ FCells w' ao g 0 (told 3 (fv [(0 : Rat), 1, 1])) ∧ Below W.heap.size W w' :=
 q_lit W [⟨#[48]⟩, ⟨#[49]⟩, ⟨#[49]⟩] [(0 : Rat), 1, 1] 3 rfl rfl (by decide) (by simp only [qaO, qaV, ft_0, ft_1]; decide +kernel) (by decide)
theorem q_3_4 (W : World) :
  Calls Tryz.prog 30 #[.slice (some ⟨W.heap.size, 0, none⟩) 2 2] (W.alloc (.cells #[.string ⟨#[51]⟩, .string ⟨#[52]⟩] 9)) fun e w' => ∃ (ao : Option Addr) (g c : Nat), e = .returned (.slice ao 2 c) ∧ FCells w' ao g 0 (told 2 (fv [(3 : Rat), 4])) ∧ Below W.heap.size W w' :=
 q_lit W [⟨#[51]⟩, ⟨#[52]⟩] [(3 : Rat), 4] 2 rfl rfl (by decide) (by simp only [qaO, qaV, ft_3, ft_4]; decide +kernel) (by decide)
theorem q_1_1 (W : World) :
  Calls Tryz.prog 30 #[.slice (some ⟨W.heap.size, 0, none⟩) 2 2] (W.alloc (.cells #[.string ⟨#[49]⟩, .string ⟨#[49]⟩] 9)) fun e w' => ∃ (ao : Option Addr) (g c : Nat), e = .returned (.slice ao 2 c) ∧ FCells w' ao g 0 (told 2 (fv [(1 : Rat), 1])) ∧ Below W.heap.size W w' :=
 q_lit W [⟨#[49]⟩, ⟨#[49]⟩] [(1 : Rat), 1] 2 rfl rfl (by decide) (by simp only [qaO, qaV, ft_1]; decide +kernel) (by decide)
theorem q_0_3 (W : World) :
  Calls Tryz.prog 30 #[.slice (some ⟨W.heap.size, 0, none⟩) 2 2] (W.alloc (.cells #[.string ⟨#[48]⟩, .string ⟨#[51]⟩] 9)) fun e w' => ∃ (ao : Option Addr) (g c : Nat), e = .returned (.slice ao 2 c) ∧ FCells w' ao g 0 (told 2 (fv [(0 : Rat), 3])) ∧ Below W.heap.size W w' :=
 q_lit W [⟨#[48]⟩, ⟨#[51]⟩] [(0 : Rat), 3] 2 rfl rfl (by decide) (by simp only [qaO, qaV, ft_0, ft_3]; decide +kernel) (by decide)
theorem q_1_1o2 (W : World) :
  Calls Tryz.prog 30 #[.slice (some ⟨W.heap.size, 0, none⟩) 2 2] (W.alloc (.cells #[.string ⟨#[49]⟩, .string ⟨#[49, 47, 50]⟩] 9)) fun e w' => ∃ (ao : Option Addr) (g c : Nat), e = .returned (.slice ao 2 c) ∧ FCells w' ao g 0 (told 2 (fv [(1 : Rat), 1 / 2])) ∧ Below W.heap.size W w' :=
 q_lit W [⟨#[49]⟩, ⟨#[49, 47, 50]⟩] [(1 : Rat), 1 / 2] 2 rfl rfl (by decide) (by simp only [qaO, qaV, ft_1, ft_12]; decide +kernel) (by decide)
theorem q_m1 (W : World) :
  Calls Tryz.prog 30 #[.slice (some ⟨W.heap.size, 0, none⟩) 1 1] (W.alloc (.cells #[.string ⟨#[45, 49]⟩] 9)) fun e w' => ∃ (ao : Option Addr) (g c : Nat), e = .returned (.slice ao 1 c) ∧ FCells w' ao g 0 (told 1 (fv [(-1 : Rat)])) ∧ Below W.heap.size W w' :=
 q_lit W [⟨#[45, 49]⟩] [(-1 : Rat)] 1 rfl rfl (by decide) (by simp only [qaO, qaV, ft_m1]; decide +kernel) (by decide)
theorem ex1 {ao : Option Addr} {g c : Nat} {ao2 : Option Addr} {g2 c2 : Nat} {w : World} (hT : TCells w ao g 0 (ttab 2 2 (fm [[(2 : Rat), 1], [(1 : Rat), 3]]))) (hF : FCells w ao2 g2 0 (told 2 (fv [(3 : Rat), 5]))) (hP : HasT w) :
  Calls Tryz.prog 18 #[.slice ao 2 c, .slice ao2 2 c2] w fun e w' => (∃ g, e = .returned (.tuple #[.slice (some ⟨g, 0, none⟩) 2 2, .int .i64 0]) ∧ FCells w' (some ⟨g, 0, none⟩) g 0 (told 2 (fv [(4 / 5 : Rat), 7 / 5]))) ∧ Below w.heap.size w w' :=
 (qho (by decide) (by decide) (qcI (by decide +kernel)) (qci (by decide +kernel)) hT hF hP).mono fun _ _ h => ⟨h.1.only (qhc (fm [[(3 / 5 : Rat), -1 / 5], [(-1 / 5 : Rat), 2 / 5]]) (by decide +kernel)) (show ∀ i, i < 2 → _ from (by decide +kernel)) (qci (by decide +kernel)), h.2⟩
theorem ex2 {ao : Option Addr} {g c : Nat} {ao2 : Option Addr} {g2 c2 : Nat} {w : World} (hT : TCells w ao g 0 (ttab 2 2 (fm [[(1 : Rat), 2], [(2 : Rat), 4]]))) (hF : FCells w ao2 g2 0 (told 2 (fv [(1 : Rat), 2]))) (hP : HasT w) :
  Calls Tryz.prog 18 #[.slice ao 2 c, .slice ao2 2 c2] w fun e w' => e = .returned (.tuple #[.slice none 0 0, .int .i64 7]) ∧ Below w.heap.size w w' :=
 (qho (by decide) (by decide) (qcI (by decide +kernel)) (qci (by decide +kernel)) hT hF hP).mono fun _ _ h => ⟨h.1.sing ⟨(fv [(2 : Rat), -1]), ⟨0, by decide, (by decide +kernel)⟩, show ∀ i, i < 2 → _ from (by decide +kernel)⟩, h.2⟩
theorem ex3 {ao : Option Addr} {g c : Nat} {ao2 : Option Addr} {g2 c2 : Nat} {w : World} (hT : TCells w ao g 0 (ttab 1 2 (fm [[(1 : Rat), 2]]))) (hF : FCells w ao2 g2 0 (told 1 (fv [(1 : Rat)]))) (hP : HasT w) :
  Calls Tryz.prog 18 #[.slice ao 1 c, .slice ao2 1 c2] w fun e w' => e = .returned (.tuple #[.slice none 0 0, .int .i64 2]) ∧ Below w.heap.size w w' :=
 qmE (by decide) (by decide) (by decide) (by decide) (by decide) (qcI (by decide +kernel)) (qci (by decide +kernel)) (by decide) hT hF hP
theorem ex4_r : qcy 2 2 (fm [[(1 : Rat), 2], [(2 : Rat), 4]]) 1 :=
 qjG (k := 1) (fm [[(1 : Rat), 2]]) (fm [[(1 : Rat)], [(2 : Rat)]]) (fm [[(1 : Rat), 0]]) (qgk (fun s => [0].getD s 0) (by decide +kernel)) (by decide +kernel) (by decide +kernel)
theorem ex4 {ao : Option Addr} {g c : Nat} {w : World} (hT : TCells w ao g 0 (ttab 2 2 (fm [[(1 : Rat), 2], [(2 : Rat), 4]]))) :
  Calls Tryz.prog 16 #[.slice ao 2 c] w fun e w' => e = .returned (.tuple #[.int .i64 1, .int .i64 0]) ∧ Below w.heap.size w w' := by
 refine (qeg (by decide) (by decide) (by decide) (by decide) (qcI (by decide +kernel)) hT).mono ?_
 rintro e w' ⟨⟨k, hk, rfl⟩, hb⟩
 obtain rfl : k = 1 := hk.uniq ex4_r (qcZ.refl _ _ _)
 exact ⟨rfl, hb⟩
theorem ex5_r : qcy 1 1 (fm [[(0 : Rat)]]) 0 :=
 qjG (k := 0) (fun _ _ => 0) (fun _ _ => 0) (fun _ _ => 0) (qgk (fun _ => 0) (by decide +kernel)) (by decide +kernel) (by decide +kernel)
theorem ex5 {ao : Option Addr} {g c : Nat} {w : World} (hT : TCells w ao g 0 (ttab 1 1 (fm [[(0 : Rat)]]))) :
  Calls Tryz.prog 16 #[.slice ao 1 c] w fun e w' => e = .returned (.tuple #[.int .i64 0, .int .i64 0]) ∧ Below w.heap.size w w' := by
 refine (qeg (by decide) (by decide) (by decide) (by decide) (qcI (by decide +kernel)) hT).mono ?_
 rintro e w' ⟨⟨k, hk, rfl⟩, hb⟩
 obtain rfl : k = 0 := hk.uniq ex5_r (qcZ.refl _ _ _)
 exact ⟨rfl, hb⟩
theorem ex6_r : qcy 2 3 (fm [[(1 : Rat), 0, 1], [(0 : Rat), 1, 1]]) 2 :=
 qjG (k := 2) (fm [[(1 : Rat), 0, 1], [(0 : Rat), 1, 1]]) (fm [[(1 : Rat), 0], [(0 : Rat), 1]]) (fm [[(1 : Rat), 0], [(0 : Rat), 1]]) (qgk (fun s => [0, 1].getD s 0) (by decide +kernel)) (by decide +kernel) (by decide +kernel)
theorem ex6 {ao : Option Addr} {g c : Nat} {w : World} (hT : TCells w ao g 0 (ttab 2 3 (fm [[(1 : Rat), 0, 1], [(0 : Rat), 1, 1]]))) :
  Calls Tryz.prog 16 #[.slice ao 2 c] w fun e w' => e = .returned (.tuple #[.int .i64 2, .int .i64 0]) ∧ Below w.heap.size w w' := by
 refine (qeg (by decide) (by decide) (by decide) (by decide) (qcI (by decide +kernel)) hT).mono ?_
 rintro e w' ⟨⟨k, hk, rfl⟩, hb⟩
 obtain rfl : k = 2 := hk.uniq ex6_r (qcZ.refl _ _ _)
 exact ⟨rfl, hb⟩
theorem ex7 {ao : Option Addr} {g c : Nat} {ao2 : Option Addr} {g2 c2 : Nat} {ao3 : Option Addr} {g3 c3 : Nat} {w : World} (hT : TCells w ao g 0 (ttab 2 1 (fm [[(1 : Rat)], [(2 : Rat)]]))) (hF : FCells w ao2 g2 0 (told 2 (fv [(3 : Rat), 4]))) (hF3 : FCells w ao3 g3 0 (told 2 (fv [(1 : Rat), 1]))) (hP : HasT w) :
  Calls Tryz.prog 22 #[.slice ao 2 c, .slice ao2 2 c2, .slice ao3 2 c3] w fun e w' => (∃ g, e = .returned (.tuple #[.slice (some ⟨g, 0, none⟩) 1 1, .int .i64 0]) ∧ FCells w' (some ⟨g, 0, none⟩) g 0 (told 1 (fv [(11 / 5 : Rat)]))) ∧ Below w.heap.size w w' :=
 (qeY (by decide) (by decide) (by decide) (by decide) (qcI (by decide +kernel)) (qci (by decide +kernel)) (qci (by decide +kernel)) (by decide +kernel) hT hF hF3 hP).mono fun _ _ h => ⟨h.1.only (qhc (fm [[(1 / 5 : Rat)]]) (by decide +kernel)) (show ∀ i, i < 1 → _ from (by decide +kernel)) (qci (by decide +kernel)), h.2⟩
theorem ex8 {ao : Option Addr} {g c : Nat} {ao2 : Option Addr} {g2 c2 : Nat} {ao3 : Option Addr} {g3 c3 : Nat} {w : World} (hT : TCells w ao g 0 (ttab 2 1 (fm [[(1 : Rat)], [(1 : Rat)]]))) (hF : FCells w ao2 g2 0 (told 2 (fv [(0 : Rat), 3]))) (hF3 : FCells w ao3 g3 0 (told 2 (fv [(2 : Rat), 1]))) (hP : HasT w) :
  Calls Tryz.prog 22 #[.slice ao 2 c, .slice ao2 2 c2, .slice ao3 2 c3] w fun e w' => (∃ g, e = .returned (.tuple #[.slice (some ⟨g, 0, none⟩) 1 1, .int .i64 0]) ∧ FCells w' (some ⟨g, 0, none⟩) g 0 (told 1 (fv [(1 : Rat)]))) ∧ Below w.heap.size w w' :=
 (qeY (by decide) (by decide) (by decide) (by decide) (qcI (by decide +kernel)) (qci (by decide +kernel)) (qci (by decide +kernel)) (by decide +kernel) hT hF hF3 hP).mono fun _ _ h => ⟨h.1.only (qhc (fm [[(1 / 3 : Rat)]]) (by decide +kernel)) (show ∀ i, i < 1 → _ from (by decide +kernel)) (qci (by decide +kernel)), h.2⟩
theorem ex9 {ao : Option Addr} {g c : Nat} {ao2 : Option Addr} {g2 c2 : Nat} {ao3 : Option Addr} {g3 c3 : Nat} {w : World} (hT : TCells w ao g 0 (ttab 1 2 (fm [[(1 : Rat), 1]]))) (hF : FCells w ao2 g2 0 (told 1 (fv [(1 : Rat)]))) (hF3 : FCells w ao3 g3 0 (told 1 (fv [(1 : Rat)]))) (hP : HasT w) :
  Calls Tryz.prog 22 #[.slice ao 1 c, .slice ao2 1 c2, .slice ao3 1 c3] w fun e w' => e = .returned (.tuple #[.slice none 0 0, .int .i64 7]) ∧ Below w.heap.size w w' :=
 (qeY (by decide) (by decide) (by decide) (by decide) (qcI (by decide +kernel)) (qci (by decide +kernel)) (qci (by decide +kernel)) (by decide +kernel) hT hF hF3 hP).mono fun _ _ h => ⟨h.1.sing ⟨(fv [(1 : Rat), -1]), ⟨0, by decide, (by decide +kernel)⟩, show ∀ i, i < 2 → _ from (by decide +kernel)⟩, h.2⟩
theorem ex10 {ao : Option Addr} {g c : Nat} {ao2 : Option Addr} {g2 c2 : Nat} {ao3 : Option Addr} {g3 c3 : Nat} {ao4 : Option Addr} {g4 c4 : Nat} {w : World} (hT : TCells w ao g 0 (ttab 2 1 (fm [[(1 : Rat)], [(2 : Rat)]]))) (hF : FCells w ao2 g2 0 (told 2 (fv [(3 : Rat), 4]))) (hF3 : FCells w ao3 g3 0 (told 2 (fv [(1 : Rat), 1 / 2]))) (hF4 : FCells w ao4 g4 0 (told 1 (fv [(1 : Rat)]))) (hP : HasT w) :
  Calls Tryz.prog 24 #[.slice ao 2 c, .slice ao2 2 c2, .slice ao3 2 c3, .slice ao4 1 c4] w fun e w' => e = .returned (.tuple #[.agg #[.string ⟨#[54]⟩, .string ⟨#[49]⟩], .int .i64 0]) ∧ Below w.heap.size w w' := by
 refine (qh9 (by decide) (by decide) (by decide) (by decide) (qcI (by decide +kernel)) (qci (by decide +kernel)) (qci (by decide +kernel)) (qci (by decide +kernel)) (by decide +kernel) hT hF hF3 hF4 hP).mono ?_
 rintro e w' ⟨h, hb⟩
 rw [show msR 2 1 (fm [[(1 : Rat)], [(2 : Rat)]]) (fv [(3 : Rat), 4]) (fv [(1 : Rat), 1 / 2]) (fv [(1 : Rat)]) = 6 by decide +kernel] at h
 rcases h with ⟨_, rfl⟩ | ⟨h, _⟩
 ·exact ⟨by rw [qdS, ft_6], hb⟩
 ·exact absurd (qeK (q := 6) (by decide +kernel)) h
theorem ex11 {ao : Option Addr} {g c : Nat} {ao2 : Option Addr} {g2 c2 : Nat} {ao3 : Option Addr} {g3 c3 : Nat} {ao4 : Option Addr} {g4 c4 : Nat} {w : World} (hT : TCells w ao g 0 (ttab 1 1 (fm [[(1 : Rat)]]))) (hF : FCells w ao2 g2 0 (told 1 (fv [(0 : Rat)]))) (hF3 : FCells w ao3 g3 0 (told 1 (fv [(-1 : Rat)]))) (hF4 : FCells w ao4 g4 0 (told 1 (fv [(1 : Rat)]))) (hP : HasT w) :
  Calls Tryz.prog 24 #[.slice ao 1 c, .slice ao2 1 c2, .slice ao3 1 c3, .slice ao4 1 c4] w fun e w' => e = .returned (.tuple #[.agg #[.string ⟨#[]⟩, .string ⟨#[]⟩], .int .i64 2]) ∧ Below w.heap.size w w' :=
 meas_neg (by decide) (by decide) (by decide) (by decide) (qcI (by decide +kernel)) (qci (by decide +kernel)) (qci (by decide +kernel)) (qci (by decide +kernel)) ⟨0, by decide, (by decide +kernel)⟩ hT hF hF3 hF4 hP
theorem ex12 (w : World) : Calls Tryz.prog 12 #[.slice none 0 0] w fun e w' => e = .returned (.int .i64 60) ∧ Below w.heap.size w w' :=
 qiz (ao := none) (g := 0) (c := 0) (t := []) rfl (by decide) (fun k hk => absurd hk (by omega)) ⟨fun h => absurd h (by decide), fun k hk => absurd hk (by simp)⟩ (fun h => absurd h.r1 (by decide))
theorem ex13 {ao : Option Addr} {g c : Nat} {w : World} (hT : TCells w ao g 0 [told 1 (fv [(1 : Rat)]), told 2 (fv [(1 : Rat), 2])]) :
  Calls Tryz.prog 12 #[.slice ao 2 c] w fun e w' => e = .returned (.int .i64 60) ∧ Below w.heap.size w w' :=
 qiz rfl (by decide) (fun k hk => by
  rcases (show k = 0 ∨ k = 1 by omega) with rfl | rfl
  ·exact (by decide : 1 ≤ 1000)
  ·exact (by decide : 2 ≤ 1000)) hT (fun h => absurd (h.rows 1 (by decide)).1 (by decide))
theorem sc1 (W : World) (s : ByteArray) {g : Nat} (hg : g = W.heap.size) : SCells (W.alloc (.cells #[.string s] 9)) g 0 [s] := by
 subst hg; exact SCells.row (L := [s]) (heap_alloc_new W _)
theorem sc2 (W : World) (s t : ByteArray) {g : Nat} (hg : g = W.heap.size) : SCells (W.alloc (.cells #[.string s, .string t] 9)) g 0 [s, t] := by
 subst hg; exact SCells.row (L := [s, t]) (heap_alloc_new W _)
theorem q_at (n : Nat) {w : World} {g : Nat} {L : List ByteArray} {l : List Rat} (hs : SCells w g 0 L) (hL : L.length = n) (hl : l.length = n) (hn : n ≤ 1000) (h : L.map qf = l.map ftxt) (hz : ∀ s ∈ L, s.size ≤ 65536) :
  Calls Tryz.prog 30 #[.slice (some ⟨g, 0, none⟩) n n] w fun e w' => ∃ (ao : Option Addr) (g c : Nat), e = .returned (.slice ao n c) ∧ FCells w' ao g 0 (told n (fv l)) ∧ Below w.heap.size w w' := by
 refine (q_any g n n L w hL hn hs (qfW hz)).mono ?_
 rintro e w' ⟨ao, g, c, rfl, hf, _, hb⟩
 rw [qgS n hl h] at hf
 exact ⟨ao, g, c, rfl, hf, hb⟩
def qcs (W : World) (vs : List Value) (t : Tbl) : Prop := vs.length = t.length ∧ ∀ k, k < t.length → ∃ (ra : Option Addr) (rb ro rc : Nat), vs.getD k undef = .slice ra (t.getD k []).length rc ∧ FCells W ra rb ro (t.getD k [])
theorem qcs.below {W W' : World} {vs : List Value} {t : Tbl} (h : qcs W vs t) (hb : Below W.heap.size W W') : qcs W' vs t :=
 ⟨h.1, fun k hk => by
  obtain ⟨ra, rb, ro, rc, h1, h2⟩ := h.2 k hk
  exact ⟨ra, rb, ro, rc, h1, h2.below hb⟩⟩
theorem TCells.vals {W : World} {ao : Option Addr} {b off : Nat} {t : Tbl} (h : TCells W ao b off t) : ∃ vs, qcs W vs t ∧ VCells W ao b off vs := by
 refine ⟨(List.range t.length).map fun k => (W.cell? ⟨b, off + k, none⟩).getD undef, ⟨by rw [qaG, qbd], fun k hk => ?_⟩, ⟨fun h0 => h.addr (by rw [qaG, qbd] at h0; exact h0), fun k hk => ?_⟩⟩
 ·obtain ⟨ra, rb, ro, rc, h1, h2⟩ := h.row k hk
  refine ⟨ra, rb, ro, rc, ?_, h2⟩
  rw [qac, qav, qaI hk]
  show (W.cell? ⟨b, off + k, none⟩).getD undef = _
  rw [h1]; rfl
 ·rw [qaG, qbd] at hk
  obtain ⟨ra, rb, ro, rc, h1, h2⟩ := h.row k hk
  rw [qac, qav, qaI hk, h1]
  show _ = some ((W.cell? ⟨b, off + k, none⟩).getD undef)
  rw [h1]; rfl
theorem qcs.tcells {W : World} {ao : Option Addr} {b off : Nat} {vs : List Value} {t : Tbl} (h : qcs W vs t) (hv : VCells W ao b off vs) : TCells W ao b off t :=
 ⟨fun h0 => hv.addr (by rw [h.1]; exact h0), fun k hk => by
  obtain ⟨ra, rb, ro, rc, h1, h2⟩ := h.2 k hk
  exact ⟨ra, rb, ro, rc, by rw [← h1]; exact hv.cell k (by rw [h.1]; exact hk), h2⟩⟩
theorem qcs.append {W : World} {vs vs2 : List Value} {t t2 : Tbl} (h : qcs W vs t) (h2 : qcs W vs2 t2) : qcs W (vs ++ vs2) (t ++ t2) := by
 refine ⟨by rw [qaj, qaj, h.1, h2.1], fun k hk => ?_⟩
 rw [qaj] at hk
 by_cases e : k < t.length
 ·have e1 : (vs ++ vs2).getD k undef = vs.getD k undef := by rw [qac, qay (by rw [h.1]; exact e), ← qac]
  have e2 : (t ++ t2).getD k [] = t.getD k [] := by rw [qac, qay e, ← qac]
  rw [e1, e2]; exact h.2 k e
 ·have e1 : (vs ++ vs2).getD k undef = vs2.getD (k - t.length) undef := by rw [qac, qaE (by rw [h.1]; omega), h.1, ← qac]
  have e2 : (t ++ t2).getD k [] = t2.getD (k - t.length) [] := by rw [qac, qaE (by omega), ← qac]
  rw [e1, e2]; exact h2.2 _ (by omega)
theorem qcs.one {W : World} {ra : Option Addr} {rb ro m rc : Nat} {l : List FT} (hl : l.length = m) (h : FCells W ra rb ro l) : qcs W [.slice ra m rc] [l] :=
 ⟨rfl, fun k hk => by
  obtain rfl : k = 0 := by simp at hk; omega
  exact ⟨ra, rb, ro, rc, by rw [show ([l] : Tbl).getD 0 [] = l from rfl, hl]; rfl, h⟩⟩
theorem qcs.not {W : World} {vs : List Value} {t : Tbl} (h : qcs W vs t) : ∀ u ∈ vs, qcD u ∧ u.oneCell' = true := fun u hu => by
 obtain ⟨k, hk, rfl⟩ := List.getElem_of_mem hu
 obtain ⟨ra, rb, ro, rc, h1, _⟩ := h.2 k (by rw [← h.1]; exact hk)
 rw [qac, qai hk] at h1
 have h2 : vs[k] = .slice ra (t.getD k []).length rc := h1
 rw [h2]
 exact ⟨qd7 _ _ _, rfl⟩
theorem qh4 : ∀ y ∈ (Value.agg #[.string ⟨#[]⟩, .string ⟨#[]⟩]).cells.toList, qcD y := by
 intro y hy
 rcases qaL.1 (show y ∈ [Value.string ⟨#[]⟩, Value.string ⟨#[]⟩] from hy) with rfl | hy
 ·exact qe4 _
 ·rw [qaq.1 hy]; exact qe4 _
theorem qim : ∀ y ∈ (Value.slice none 0 0).cells.toList, qcD y := by
 intro y hy
 rw [qaq.1 (show y ∈ [Value.slice none 0 0] from hy)]; exact qd7 _ _ _
theorem qeW (l : List FT) : ∀ u ∈ fflat l, qcD u := fun u hu => by
 unfold fflat at hu
 obtain ⟨x, _, hx⟩ := List.mem_flatMap.1 hu
 rcases qaL.1 hx with rfl | hx
 ·exact qe4 _
 ·rw [qaq.1 hx]; exact qe4 _
theorem wp_fracs {w : World} {o : Oper} {a : Act} {K : Act → World → Prop} {Q : Exit → Act → World → Prop} (s x : Operand)
  (ho : o.op = .call { callee := .builtin .append, args := #[s, x], argTypes := #[23, 23] }) {B : Nat} {v : Value} {n m c b off : Nat} {l l2 : List FT} {ad : Option Addr}
  (hBw : B ≤ w.heap.size) (hown : Rws w B 46 2 v n (fflat l)) (hF : FCells w ad b off l2) (hm : l2.length = m) (hm0 : 0 < m) (hs : a.eval s = v) (hx : a.eval x = .slice ad m c) (hn : n + m ≤ 1000000)
  (h : ∀ v' w', Rws w' B 46 2 v' (n + m) (fflat (l ++ l2)) → w.grownBy w' v.ownBlock → K (a.put o.dst v') w') : Oper.wp Tryz.prog o a w K Q := by
 obtain ⟨i0, hi, hz0, hz1, hz2⟩ := info_parts infoF
 have ha := hF.addr (by omega)
 subst ha
 refine qeP s x 23 ho B 46 i0 _ 2 32 Tryz.underlying23 hi hz0 hz1 hz2 rfl (by decide) qh4 v n (fflat l) hs hown ⟨b, off, none⟩ m c (fflat l2) hx (by rw [qcl, hm]) hF.src (qg2 l2) (qeW l2) hm0 (by unfold maxLen; omega) (by omega) hBw ?_
 intro v' w' h1 h2 _
 refine h v' w' ?_ h2
 rw [qdY]; exact h1
theorem qmW {w : World} {o : Oper} {a : Act} {K : Act → World → Prop} {Q : Exit → Act → World → Prop} (s x : Operand)
  (ho : o.op = .call { callee := .builtin .append, args := #[s, x], argTypes := #[22, 22] }) {B : Nat} {v : Value} {n m c b off : Nat} {vs vs2 : List Value} {ad : Option Addr}
  (hBw : B ≤ w.heap.size) (hown : Rws w B 23 1 v n vs) (hF : VCells w ad b off vs2) (hnn : ∀ u ∈ vs2, qcD u ∧ u.oneCell' = true) (hm : vs2.length = m) (hm0 : 0 < m) (hs : a.eval s = v) (hx : a.eval x = .slice ad m c) (hn : n + m ≤ 1000000)
  (h : ∀ v' w', Rws w' B 23 1 v' (n + m) (vs ++ vs2) → w.grownBy w' v.ownBlock → K (a.put o.dst v') w') : Oper.wp Tryz.prog o a w K Q := by
 obtain ⟨i0, hi, hz0, hz1, hz2⟩ := info_parts qhH
 have ha := hF.addr (by omega)
 subst ha
 refine qeP s x 22 ho B 23 i0 _ 1 24 Tryz.underlying22 hi hz0 hz1 hz2 rfl (by decide) qim v n vs hs hown ⟨b, off, none⟩ m c vs2 hx (by rw [hm, qbN]) ?c1 (fun u hu => (hnn u hu).2) (fun u hu => (hnn u hu).1) hm0 (by unfold maxLen; omega) (by omega) hBw ?_
 case c1 =>
  intro j u hj
  rw [Addr.add_mid]
  have hjl := (List.getElem?_eq_some_iff.1 hj).1
  rw [hF.cell j hjl, qac, hj]; rfl
 intro v' w' h1 h2 _
 exact h v' w' h1 h2
section
variable {w : World} {ops : Array Oper} {rest : List Oper} {o : Oper} {a : Act} {K : Act → World → Prop} {Q : Exit → Act → World → Prop} {E : Prop}
theorem qgC (hgd : o.guard = none) (s x : Operand)
  (ho : o.op = .call { callee := .builtin .append, args := #[s, x], argTypes := #[23, 23] }) {B : Nat} {v : Value} {n m c b off : Nat} {l l2 : List FT} {ad : Option Addr}
  (hBw : B ≤ w.heap.size) (hown : Rws w B 46 2 v n (fflat l)) (hF : FCells w ad b off l2) (hm : l2.length = m) (hm0 : 0 < m) (hs : a.eval s = v) (hx : a.eval x = .slice ad m c) (hn : n + m ≤ 1000000)
  (h : ∀ v' w', Rws w' B 46 2 v' (n + m) (fflat (l ++ l2)) → w.grownBy w' v.ownBlock → wpList Tryz.prog ops Q rest (a.put o.dst v') w') : wpList Tryz.prog ops Q (o :: rest) a w :=
 wpList_plain hgd fun _ hK => wp_fracs s x ho hBw hown hF hm hm0 hs hx hn fun v' w' h1 h2 => hK _ _ (h v' w' h1 h2)
theorem qhu (hgd : o.guard = none) (s x : Operand)
  (ho : o.op = .call { callee := .builtin .append, args := #[s, x], argTypes := #[22, 22] }) {B : Nat} {v : Value} {n m c b off : Nat} {vs vs2 : List Value} {ad : Option Addr}
  (hBw : B ≤ w.heap.size) (hown : Rws w B 23 1 v n vs) (hF : VCells w ad b off vs2) (hnn : ∀ u ∈ vs2, qcD u ∧ u.oneCell' = true) (hm : vs2.length = m) (hm0 : 0 < m) (hs : a.eval s = v) (hx : a.eval x = .slice ad m c) (hn : n + m ≤ 1000000)
  (h : ∀ v' w', Rws w' B 23 1 v' (n + m) (vs ++ vs2) → w.grownBy w' v.ownBlock → wpList Tryz.prog ops Q rest (a.put o.dst v') w') : wpList Tryz.prog ops Q (o :: rest) a w :=
 wpList_plain hgd fun _ hK => qmW s x ho hBw hown hF hnn hm hm0 hs hx hn fun v' w' h1 h2 => hK _ _ (h v' w' h1 h2)
end
theorem qgQ (W : World) (e : TypeId) (size : Nat) {B g : Nat} (hg : g = W.heap.size) (hB : B ≤ g) : Rws (W.alloc (.cells #[] e)) B e size (.slice (some ⟨g, 0, none⟩) 0 0) 0 [] := by
 subst hg
 exact ⟨by simp, .inr ⟨W.heap.size, 0, #[], rfl, hB, heap_alloc_new W _, qaf _, by unfold maxLen; omega, by simp, by simp, fun x hx => by simp at hx⟩⟩
theorem qdX (ao : Option Addr) (b off n c : Nat) (l : List FT) (w : World) (hl : l.length = n) (hn0 : 0 < n) (hn : n ≤ 1000) (hF : FCells w ao b off l) :
  Calls Tryz.prog 40 #[.slice ao n c] w fun e w' => ∃ v, e = .returned v ∧ Rws w' w.heap.size 46 2 v n (fflat l) ∧ Below w.heap.size w w' := by
 have ha := hF.addr (by omega)
 subst ha
 have hb1 : Below w.heap.size w (w.alloc (.cells #[] 46)) := qb1 qB qN
 have HF := qH (qA (hF.below hb1) (qA hl hb1))
 clear hF hl hb1
 have hq : ∀ (W : World), (binOp .eql 23 (.slice (some ⟨b, off, none⟩) n c) (.slice none 0 0)).run Tryz.prog W = .ok (.bool false) W := fun W => Lib.run_eql_slice_nil W _ _ _ n c 0 0 Tryz.underlying23
 go_enter Tryz.func40, Tryz.ntmps40
 go_wp2_with (first | (at_builtin; refine qgC (l := []) (n := 0) rfl _ _ rfl HF.out.2.2.size (qgQ w 46 2 rfl qN) HF.out.1 HF.out.2.1 hn0 rfl rfl (by omega) ?_; intro v' w' ho' hg') | fail)
 have HO := qH (qA ho' (Rws.old (qgQ w 46 2 rfl (qaf w.heap.size)) hg' HF.out.2.2 qN HF.out.2.2.size))
 clear ho' hg'
 go_wp2_with fail
 go_ret
 exact ⟨v', rfl, by have := HO.out.1; rwa [qaD, qbm] at this, HO.out.2⟩
theorem qe8 (ao : Option Addr) (b off n c : Nat) (vs : List Value) (w : World) (hl : vs.length = n) (hn0 : 0 < n) (hn : n ≤ 1000) (hF : VCells w ao b off vs) (hnn : ∀ u ∈ vs, qcD u ∧ u.oneCell' = true) :
  Calls Tryz.prog 38 #[.slice ao n c] w fun e w' => ∃ v, e = .returned v ∧ Rws w' w.heap.size 23 1 v n vs ∧ Below w.heap.size w w' := by
 have ha := hF.addr (by omega)
 subst ha
 have hb1 : Below w.heap.size w (w.alloc (.cells #[] 23)) := qb1 qB qN
 have HF := qH (qA (hF.below hb1) (qA hl hb1))
 have HN := qH hnn
 clear hF hl hb1 hnn
 have hq : ∀ (W : World), (binOp .eql 22 (.slice (some ⟨b, off, none⟩) n c) (.slice none 0 0)).run Tryz.prog W = .ok (.bool false) W := fun W => Lib.run_eql_slice_nil W _ _ _ n c 0 0 Tryz.underlying22
 go_enter Tryz.func38, Tryz.ntmps38
 go_wp2_with (first | (at_builtin; refine qhu (vs := []) (n := 0) rfl _ _ rfl HF.out.2.2.size (qgQ w 23 1 rfl qN) HF.out.1 HN.out HF.out.2.1 hn0 rfl rfl (by omega) ?_; intro v' w' ho' hg') | fail)
 have HO := qH (qA ho' (Rws.old (qgQ w 23 1 rfl (qaf w.heap.size)) hg' HF.out.2.2 qN HF.out.2.2.size))
 clear ho' hg'
 go_wp2_with fail
 go_ret
 exact ⟨v', rfl, by have := HO.out.1; rwa [qaD, qbm] at this, HO.out.2⟩
end Go.Proofs.YtfminfgabiipjaaGreatDoor
