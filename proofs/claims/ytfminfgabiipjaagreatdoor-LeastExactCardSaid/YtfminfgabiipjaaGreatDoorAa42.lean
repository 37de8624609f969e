/- Aa, part 42: Wk0 Wz Lb Gs -/
import Derived.Deep.RegionHeld3
import Derived.Test.YtfminfgabiipjaaGreatDoorAa0
import Derived.Test.YtfminfgabiipjaaGreatDoorAa19
import Derived.Test.YtfminfgabiipjaaGreatDoorAa41
set_option maxRecDepth 100000
set_option maxHeartbeats 16000000
namespace Go.Proofs.YtfminfgabiipjaaGreatDoor
open Go.RowKit
theorem qcD {R n : Nat} {f : Nat → Nat → Rat} (h : ∀ i, i < R → ∀ j, j < n → (f i j).num.natAbs ≤ 1000 ∧ (f i j).den ≤ 1000) : ∀ i, i < R → qb9 n (f i) := fun i hi => qcc (h i hi)
theorem qfV {n k : Nat} {A : Nat → Nat → Rat} (σ : Nat → Nat) (hσ : ∀ s, s < k → σ s < n ∧ A s (σ s) ≠ 0 ∧ ∀ i, i < k → s < i → A i (σ s) = 0) : qcq k n A k :=
 qcq.steps qN σ (fun s hs => ⟨(hσ s hs).1, (hσ s hs).2.1, fun i h1 h2 => (hσ s hs).2.2 i h2 h1⟩) (fun i h1 h2 => absurd h1 (by omega))
theorem qha.sing {n : Nat} {f : Nat → Nat → Rat} {b : Nat → Rat} {e : Ending} {w' : World} (h : qha n f b e w') (hs : Sing n f) : e = .returned (.tuple #[.slice none 0 0, .int .i64 7]) := by
 rcases h with ⟨_, h⟩ | ⟨h, _⟩
 ·exact h
 ·exact absurd hs h
theorem qfg.sing {R n : Nat} {f : Nat → Nat → Rat} {b v : Nat → Rat} {e : Ending} {w' : World} (h : qfg R n f b v e w') (hs : Sing n (normR R n f b v)) : e = .returned (.tuple #[.slice none 0 0, .int .i64 7]) := by
 rcases h with ⟨_, h⟩ | ⟨h, _⟩
 ·exact h
 ·exact absurd hs h
theorem qlV {R n m : Nat} {f : Nat → Nat → Rat} {b : Nat → Rat} {ao : Option Addr} {g c : Nat} {ao2 : Option Addr} {g2 c2 : Nat} {w : World} (h1 : 1 ≤ R) (h2 : R ≤ 40) (h3 : 1 ≤ n) (h4 : n ≤ 10) (hm : m ≤ 1000) (hf : ∀ i, i < R → qb9 n (f i)) (hb : qb9 m b) (hne : ¬ (m = R ∧ R = n)) (hT : TCells w ao g 0 (ttab R n f)) (hF : FCells w ao2 g2 0 (told m b)) (hP : HasT w) :
  Calls Tryz.prog 18 #[.slice ao R c, .slice ao2 m c2] w fun e w' => e = .returned (.tuple #[.slice none 0 0, .int .i64 2]) ∧ Below w.heap.size w w' := by
 refine (qhr ao g 0 R c _ ao2 g2 0 m c2 _ w (qce _ _ _) (by omega) (qek (by omega)) hT (qbZ _ _) (by omega) hF hP).mono ?_
 rintro e w' ⟨h, hb'⟩
 refine ⟨?_, hb'⟩
 rcases h with h | h | h | h
 ·exact absurd (qf3 h1 h2 h3 h4 hf) h.1
 ·exact absurd (qc5 hb) h.2.1
 ·exact h.2.2.2
 ·exact absurd ⟨by have := h.2.2.1; rwa [qbZ, qce] at this, by have := h.2.2.2.1; rwa [qce, qdJ h1] at this⟩ hne
theorem meas_neg {R n : Nat} {f : Nat → Nat → Rat} {b v x : Nat → Rat} {ao : Option Addr} {g c : Nat} {ao2 : Option Addr} {g2 c2 : Nat} {ao3 : Option Addr} {g3 c3 : Nat} {ao4 : Option Addr} {g4 c4 : Nat} {w : World} (h1 : 1 ≤ R) (h2 : R ≤ 40) (h3 : 1 ≤ n) (h4 : n ≤ 10) (hf : ∀ i, i < R → qb9 n (f i)) (hb : qb9 R b) (hv : qb9 R v) (hx : qb9 n x) (hv0 : ∃ i, i < R ∧ (v i).num < 0) (hT : TCells w ao g 0 (ttab R n f)) (hF : FCells w ao2 g2 0 (told R b)) (hF3 : FCells w ao3 g3 0 (told R v)) (hF4 : FCells w ao4 g4 0 (told n x)) (hP : HasT w) :
  Calls Tryz.prog 24 #[.slice ao R c, .slice ao2 R c2, .slice ao3 R c3, .slice ao4 n c4] w fun e w' => e = .returned (.tuple #[.agg #[.string ⟨#[]⟩, .string ⟨#[]⟩], .int .i64 2]) ∧ Below w.heap.size w w' := by
 have hneg : Neg (told R v) := by
  obtain ⟨i, hi, hlt⟩ := hv0
  refine ⟨i, by rw [qbZ]; exact hi, ?_⟩
  rw [qeA hi, show (ftxt (v i)).1.data.toList = itxt (v i).num from rfl, qdn]; exact hlt
 refine (qf8 ao g 0 R c _ ao2 g2 0 R c2 _ ao3 g3 0 R c3 _ ao4 g4 0 n c4 _ w (qce _ _ _) (by omega) (qek (by omega)) hT (qbZ _ _) (by omega) hF (qbZ _ _) (by omega) hF3 (qbZ _ _) (by omega) hF4 hP).mono ?_
 rintro e w' ⟨h, hb'⟩
 refine ⟨?_, hb'⟩
 rcases h with h | h | h | h
 ·exact absurd (qf3 h1 h2 h3 h4 hf) h.1
 ·exact absurd ⟨qc5 hb, qc5 hv, qc5 hx⟩ h.2.1
 ·exact h.2.2.2.2.2
 ·exact absurd hneg h.2.2.2.2.2.2.2.1
theorem qgl {W : World} {ao : Option Addr} {g n : Nat} {x : Nat → Rat} {x1 x2 : ByteArray} (hf : FCells W ao g 0 (told n x)) (hn : 0 < n) (hq : ftxt (x 0) = (x1, x2)) : W.cell? ⟨g, 0, none⟩ = some (.string x1) ∧ W.cell? ⟨g, 1, none⟩ = some (.string x2) := by
 obtain ⟨h1, h2⟩ := hf.cell 0 (by rw [qbZ]; exact hn)
 rw [qeA hn, hq] at h1 h2
 exact ⟨h1, h2⟩
theorem qh2 {ao : Option Addr} {g R c : Nat} {t : Tbl} {w : World} (hR : t.length = R) (hl : R ≤ 1000) (hw : ∀ k, k < R → (t.getD k []).length ≤ 1000) (hT : TCells w ao g 0 t) (hn : ¬ TOk t) :
  Calls Tryz.prog 12 #[.slice ao R c] w fun e w' => e = .returned (.int .i64 60) ∧ Below w.heap.size w w' := by
 refine (qgB ao g 0 R c t w hR (by omega) (fun k hk => qam (hw k hk) (by decide)) hT).mono ?_
 rintro e w' ⟨c, rfl, h, hb⟩
 rcases h with h | h
 ·first | exact absurd h.2 hn | exact absurd h.1 hn
 ·exact ⟨by rw [h.1], hb⟩
theorem q_1 (W : World) :
  Calls Tryz.prog 30 #[.slice (some ⟨W.heap.size, 0, none⟩) 1 1] (W.alloc (.cells #[.string ⟨#[49]⟩] 9)) fun e w' => ∃ (ao : Option Addr) (g c : Nat), e = .returned (.slice ao 1 c) ∧ FCells w' ao g 0 (told 1 (fv [(1 : Rat)])) ∧ Below W.heap.size W w' :=
 q_lit W [⟨#[49]⟩] [(1 : Rat)] 1 rfl rfl (by decide) (by simp only [qaS, qaX, ft_1]; decide +kernel) (by decide)
theorem q_2 (W : World) :
  Calls Tryz.prog 30 #[.slice (some ⟨W.heap.size, 0, none⟩) 1 1] (W.alloc (.cells #[.string ⟨#[50]⟩] 9)) fun e w' => ∃ (ao : Option Addr) (g c : Nat), e = .returned (.slice ao 1 c) ∧ FCells w' ao g 0 (told 1 (fv [(2 : Rat)])) ∧ Below W.heap.size W w' :=
 q_lit W [⟨#[50]⟩] [(2 : Rat)] 1 rfl rfl (by decide) (by simp only [qaS, qaX, ft_2]; decide +kernel) (by decide)
theorem q_2_1 (W : World) :
  Calls Tryz.prog 30 #[.slice (some ⟨W.heap.size, 0, none⟩) 2 2] (W.alloc (.cells #[.string ⟨#[50]⟩, .string ⟨#[49]⟩] 9)) fun e w' => ∃ (ao : Option Addr) (g c : Nat), e = .returned (.slice ao 2 c) ∧ FCells w' ao g 0 (told 2 (fv [(2 : Rat), 1])) ∧ Below W.heap.size W w' :=
 q_lit W [⟨#[50]⟩, ⟨#[49]⟩] [(2 : Rat), 1] 2 rfl rfl (by decide) (by simp only [qaS, qaX, ft_1, ft_2]; decide +kernel) (by decide)
theorem q_1_3 (W : World) :
  Calls Tryz.prog 30 #[.slice (some ⟨W.heap.size, 0, none⟩) 2 2] (W.alloc (.cells #[.string ⟨#[49]⟩, .string ⟨#[51]⟩] 9)) fun e w' => ∃ (ao : Option Addr) (g c : Nat), e = .returned (.slice ao 2 c) ∧ FCells w' ao g 0 (told 2 (fv [(1 : Rat), 3])) ∧ Below W.heap.size W w' :=
 q_lit W [⟨#[49]⟩, ⟨#[51]⟩] [(1 : Rat), 3] 2 rfl rfl (by decide) (by simp only [qaS, qaX, ft_1, ft_3]; decide +kernel) (by decide)
theorem q_3_5 (W : World) :
  Calls Tryz.prog 30 #[.slice (some ⟨W.heap.size, 0, none⟩) 2 2] (W.alloc (.cells #[.string ⟨#[51]⟩, .string ⟨#[53]⟩] 9)) fun e w' => ∃ (ao : Option Addr) (g c : Nat), e = .returned (.slice ao 2 c) ∧ FCells w' ao g 0 (told 2 (fv [(3 : Rat), 5])) ∧ Below W.heap.size W w' :=
 q_lit W [⟨#[51]⟩, ⟨#[53]⟩] [(3 : Rat), 5] 2 rfl rfl (by decide) (by simp only [qaS, qaX, ft_3, ft_5]; decide +kernel) (by decide)
theorem q_1_2 (W : World) :
  Calls Tryz.prog 30 #[.slice (some ⟨W.heap.size, 0, none⟩) 2 2] (W.alloc (.cells #[.string ⟨#[49]⟩, .string ⟨#[50]⟩] 9)) fun e w' => ∃ (ao : Option Addr) (g c : Nat), e = .returned (.slice ao 2 c) ∧ FCells w' ao g 0 (told 2 (fv [(1 : Rat), 2])) ∧ Below W.heap.size W w' :=
 q_lit W [⟨#[49]⟩, ⟨#[50]⟩] [(1 : Rat), 2] 2 rfl rfl (by decide) (by simp only [qaS, qaX, ft_1, ft_2]; decide +kernel) (by decide)
theorem q_2_4 (W : World) :
  Calls Tryz.prog 30 #[.slice (some ⟨W.heap.size, 0, none⟩) 2 2] (W.alloc (.cells #[.string ⟨#[50]⟩, .string ⟨#[52]⟩] 9)) fun e w' => ∃ (ao : Option Addr) (g c : Nat), e = .returned (.slice ao 2 c) ∧ FCells w' ao g 0 (told 2 (fv [(2 : Rat), 4])) ∧ Below W.heap.size W w' :=
 q_lit W [⟨#[50]⟩, ⟨#[52]⟩] [(2 : Rat), 4] 2 rfl rfl (by decide) (by simp only [qaS, qaX, ft_2, ft_4]; decide +kernel) (by decide)
theorem q_0 (W : World) :
  Calls Tryz.prog 30 #[.slice (some ⟨W.heap.size, 0, none⟩) 1 1] (W.alloc (.cells #[.string ⟨#[48]⟩] 9)) fun e w' => ∃ (ao : Option Addr) (g c : Nat), e = .returned (.slice ao 1 c) ∧ FCells w' ao g 0 (told 1 (fv [(0 : Rat)])) ∧ Below W.heap.size W w' :=
 q_lit W [⟨#[48]⟩] [(0 : Rat)] 1 rfl rfl (by decide) (by simp only [qaS, qaX, ft_0]; decide +kernel) (by decide)
theorem q_1_0_1 (W : World) :
  Calls Tryz.prog 30 #[.slice (some ⟨W.heap.size, 0, none⟩) 3 3] (W.alloc (.cells #[.string ⟨#[49]⟩, .string ⟨#[48]⟩, .string ⟨#[49]⟩] 9)) fun e w' => ∃ (ao : Option Addr) (g c : Nat), e = .returned (.slice ao 3 c) ∧ FCells w' ao g 0 (told 3 (fv [(1 : Rat), 0, 1])) ∧ Below W.heap.size W w' :=
 q_lit W [⟨#[49]⟩, ⟨#[48]⟩, ⟨#[49]⟩] [(1 : Rat), 0, 1] 3 rfl rfl (by decide) (by simp only [qaS, qaX, ft_0, ft_1]; decide +kernel) (by decide)
theorem q_0_1_1 (W : World) :
  Calls Tryz.prog 30 #[.slice (some ⟨W.heap.size, 0, none⟩) 3 3] (W.alloc (.cells #[.string ⟨#[48]⟩, .string ⟨#[49]⟩, .string ⟨#[49]⟩] 9)) fun e w' => ∃ (ao : Option Addr) (g c : Nat), e = .returned (.slice ao 3 c) ∧ FCells w' ao g 0 (told 3 (fv [(0 : Rat), 1, 1])) ∧ Below W.heap.size W w' :=
 q_lit W [⟨#[48]⟩, ⟨#[49]⟩, ⟨#[49]⟩] [(0 : Rat), 1, 1] 3 rfl rfl (by decide) (by simp only [qaS, qaX, ft_0, ft_1]; decide +kernel) (by decide)
theorem q_3_4 (W : World) :
  Calls Tryz.prog 30 #[.slice (some ⟨W.heap.size, 0, none⟩) 2 2] (W.alloc (.cells #[.string ⟨#[51]⟩, .string ⟨#[52]⟩] 9)) fun e w' => ∃ (ao : Option Addr) (g c : Nat), e = .returned (.slice ao 2 c) ∧ FCells w' ao g 0 (told 2 (fv [(3 : Rat), 4])) ∧ Below W.heap.size W w' :=
 q_lit W [⟨#[51]⟩, ⟨#[52]⟩] [(3 : Rat), 4] 2 rfl rfl (by decide) (by simp only [qaS, qaX, ft_3, ft_4]; decide +kernel) (by decide)
theorem q_1_1 (W : World) :
  Calls Tryz.prog 30 #[.slice (some ⟨W.heap.size, 0, none⟩) 2 2] (W.alloc (.cells #[.string ⟨#[49]⟩, .string ⟨#[49]⟩] 9)) fun e w' => ∃ (ao : Option Addr) (g c : Nat), e = .returned (.slice ao 2 c) ∧ FCells w' ao g 0 (told 2 (fv [(1 : Rat), 1])) ∧ Below W.heap.size W w' :=
 q_lit W [⟨#[49]⟩, ⟨#[49]⟩] [(1 : Rat), 1] 2 rfl rfl (by decide) (by simp only [qaS, qaX, ft_1]; decide +kernel) (by decide)
theorem q_0_3 (W : World) :
  Calls Tryz.prog 30 #[.slice (some ⟨W.heap.size, 0, none⟩) 2 2] (W.alloc (.cells #[.string ⟨#[48]⟩, .string ⟨#[51]⟩] 9)) fun e w' => ∃ (ao : Option Addr) (g c : Nat), e = .returned (.slice ao 2 c) ∧ FCells w' ao g 0 (told 2 (fv [(0 : Rat), 3])) ∧ Below W.heap.size W w' :=
 q_lit W [⟨#[48]⟩, ⟨#[51]⟩] [(0 : Rat), 3] 2 rfl rfl (by decide) (by simp only [qaS, qaX, ft_0, ft_3]; decide +kernel) (by decide)
theorem q_1_1o2 (W : World) :
  Calls Tryz.prog 30 #[.slice (some ⟨W.heap.size, 0, none⟩) 2 2] (W.alloc (.cells #[.string ⟨#[49]⟩, .string ⟨#[49, 47, 50]⟩] 9)) fun e w' => ∃ (ao : Option Addr) (g c : Nat), e = .returned (.slice ao 2 c) ∧ FCells w' ao g 0 (told 2 (fv [(1 : Rat), 1 / 2])) ∧ Below W.heap.size W w' :=
 q_lit W [⟨#[49]⟩, ⟨#[49, 47, 50]⟩] [(1 : Rat), 1 / 2] 2 rfl rfl (by decide) (by simp only [qaS, qaX, ft_1, ft_12]; decide +kernel) (by decide)
theorem q_m1 (W : World) :
  Calls Tryz.prog 30 #[.slice (some ⟨W.heap.size, 0, none⟩) 1 1] (W.alloc (.cells #[.string ⟨#[45, 49]⟩] 9)) fun e w' => ∃ (ao : Option Addr) (g c : Nat), e = .returned (.slice ao 1 c) ∧ FCells w' ao g 0 (told 1 (fv [(-1 : Rat)])) ∧ Below W.heap.size W w' :=
 q_lit W [⟨#[45, 49]⟩] [(-1 : Rat)] 1 rfl rfl (by decide) (by simp only [qaS, qaX, ft_m1]; decide +kernel) (by decide)
theorem ex1 {ao : Option Addr} {g c : Nat} {ao2 : Option Addr} {g2 c2 : Nat} {w : World} (hT : TCells w ao g 0 (ttab 2 2 (fm [[(2 : Rat), 1], [(1 : Rat), 3]]))) (hF : FCells w ao2 g2 0 (told 2 (fv [(3 : Rat), 5]))) (hP : HasT w) :
  Calls Tryz.prog 18 #[.slice ao 2 c, .slice ao2 2 c2] w fun e w' => (∃ g, e = .returned (.tuple #[.slice (some ⟨g, 0, none⟩) 2 2, .int .i64 0]) ∧ FCells w' (some ⟨g, 0, none⟩) g 0 (told 2 (fv [(4 / 5 : Rat), 7 / 5]))) ∧ Below w.heap.size w w' :=
 (qgZ (by decide) (by decide) (qcD (by decide +kernel)) (qcc (by decide +kernel)) hT hF hP).mono fun _ _ h => ⟨h.1.only (qgO (fm [[(3 / 5 : Rat), -1 / 5], [(-1 / 5 : Rat), 2 / 5]]) (by decide +kernel)) (show ∀ i, i < 2 → _ from (by decide +kernel)) (qcc (by decide +kernel)), h.2⟩
theorem ex2 {ao : Option Addr} {g c : Nat} {ao2 : Option Addr} {g2 c2 : Nat} {w : World} (hT : TCells w ao g 0 (ttab 2 2 (fm [[(1 : Rat), 2], [(2 : Rat), 4]]))) (hF : FCells w ao2 g2 0 (told 2 (fv [(1 : Rat), 2]))) (hP : HasT w) :
  Calls Tryz.prog 18 #[.slice ao 2 c, .slice ao2 2 c2] w fun e w' => e = .returned (.tuple #[.slice none 0 0, .int .i64 7]) ∧ Below w.heap.size w w' :=
 (qgZ (by decide) (by decide) (qcD (by decide +kernel)) (qcc (by decide +kernel)) hT hF hP).mono fun _ _ h => ⟨h.1.sing ⟨(fv [(2 : Rat), -1]), ⟨0, by decide, (by decide +kernel)⟩, show ∀ i, i < 2 → _ from (by decide +kernel)⟩, h.2⟩
theorem ex3 {ao : Option Addr} {g c : Nat} {ao2 : Option Addr} {g2 c2 : Nat} {w : World} (hT : TCells w ao g 0 (ttab 1 2 (fm [[(1 : Rat), 2]]))) (hF : FCells w ao2 g2 0 (told 1 (fv [(1 : Rat)]))) (hP : HasT w) :
  Calls Tryz.prog 18 #[.slice ao 1 c, .slice ao2 1 c2] w fun e w' => e = .returned (.tuple #[.slice none 0 0, .int .i64 2]) ∧ Below w.heap.size w w' :=
 qlV (by decide) (by decide) (by decide) (by decide) (by decide) (qcD (by decide +kernel)) (qcc (by decide +kernel)) (by decide) hT hF hP
theorem ex4_r : qcq 2 2 (fm [[(1 : Rat), 2], [(2 : Rat), 4]]) 1 :=
 qi2 (k := 1) (fm [[(1 : Rat), 2]]) (fm [[(1 : Rat)], [(2 : Rat)]]) (fm [[(1 : Rat), 0]]) (qfV (fun s => [0].getD s 0) (by decide +kernel)) (by decide +kernel) (by decide +kernel)
theorem ex4 {ao : Option Addr} {g c : Nat} {w : World} (hT : TCells w ao g 0 (ttab 2 2 (fm [[(1 : Rat), 2], [(2 : Rat), 4]]))) :
  Calls Tryz.prog 16 #[.slice ao 2 c] w fun e w' => e = .returned (.tuple #[.int .i64 1, .int .i64 0]) ∧ Below w.heap.size w w' := by
 refine (qd0 (by decide) (by decide) (by decide) (by decide) (qcD (by decide +kernel)) hT).mono ?_
 rintro e w' ⟨⟨k, hk, rfl⟩, hb⟩
 obtain rfl : k = 1 := hk.uniq ex4_r (qcR.refl _ _ _)
 exact ⟨rfl, hb⟩
theorem ex5_r : qcq 1 1 (fm [[(0 : Rat)]]) 0 :=
 qi2 (k := 0) (fun _ _ => 0) (fun _ _ => 0) (fun _ _ => 0) (qfV (fun _ => 0) (by decide +kernel)) (by decide +kernel) (by decide +kernel)
theorem ex5 {ao : Option Addr} {g c : Nat} {w : World} (hT : TCells w ao g 0 (ttab 1 1 (fm [[(0 : Rat)]]))) :
  Calls Tryz.prog 16 #[.slice ao 1 c] w fun e w' => e = .returned (.tuple #[.int .i64 0, .int .i64 0]) ∧ Below w.heap.size w w' := by
 refine (qd0 (by decide) (by decide) (by decide) (by decide) (qcD (by decide +kernel)) hT).mono ?_
 rintro e w' ⟨⟨k, hk, rfl⟩, hb⟩
 obtain rfl : k = 0 := hk.uniq ex5_r (qcR.refl _ _ _)
 exact ⟨rfl, hb⟩
theorem ex6_r : qcq 2 3 (fm [[(1 : Rat), 0, 1], [(0 : Rat), 1, 1]]) 2 :=
 qi2 (k := 2) (fm [[(1 : Rat), 0, 1], [(0 : Rat), 1, 1]]) (fm [[(1 : Rat), 0], [(0 : Rat), 1]]) (fm [[(1 : Rat), 0], [(0 : Rat), 1]]) (qfV (fun s => [0, 1].getD s 0) (by decide +kernel)) (by decide +kernel) (by decide +kernel)
theorem ex6 {ao : Option Addr} {g c : Nat} {w : World} (hT : TCells w ao g 0 (ttab 2 3 (fm [[(1 : Rat), 0, 1], [(0 : Rat), 1, 1]]))) :
  Calls Tryz.prog 16 #[.slice ao 2 c] w fun e w' => e = .returned (.tuple #[.int .i64 2, .int .i64 0]) ∧ Below w.heap.size w w' := by
 refine (qd0 (by decide) (by decide) (by decide) (by decide) (qcD (by decide +kernel)) hT).mono ?_
 rintro e w' ⟨⟨k, hk, rfl⟩, hb⟩
 obtain rfl : k = 2 := hk.uniq ex6_r (qcR.refl _ _ _)
 exact ⟨rfl, hb⟩
theorem ex7 {ao : Option Addr} {g c : Nat} {ao2 : Option Addr} {g2 c2 : Nat} {ao3 : Option Addr} {g3 c3 : Nat} {w : World} (hT : TCells w ao g 0 (ttab 2 1 (fm [[(1 : Rat)], [(2 : Rat)]]))) (hF : FCells w ao2 g2 0 (told 2 (fv [(3 : Rat), 4]))) (hF3 : FCells w ao3 g3 0 (told 2 (fv [(1 : Rat), 1]))) (hP : HasT w) :
  Calls Tryz.prog 22 #[.slice ao 2 c, .slice ao2 2 c2, .slice ao3 2 c3] w fun e w' => (∃ g, e = .returned (.tuple #[.slice (some ⟨g, 0, none⟩) 1 1, .int .i64 0]) ∧ FCells w' (some ⟨g, 0, none⟩) g 0 (told 1 (fv [(11 / 5 : Rat)]))) ∧ Below w.heap.size w w' :=
 (qft (by decide) (by decide) (by decide) (by decide) (qcD (by decide +kernel)) (qcc (by decide +kernel)) (qcc (by decide +kernel)) (by decide +kernel) hT hF hF3 hP).mono fun _ _ h => ⟨h.1.only (qgO (fm [[(1 / 5 : Rat)]]) (by decide +kernel)) (show ∀ i, i < 1 → _ from (by decide +kernel)) (qcc (by decide +kernel)), h.2⟩
theorem ex8 {ao : Option Addr} {g c : Nat} {ao2 : Option Addr} {g2 c2 : Nat} {ao3 : Option Addr} {g3 c3 : Nat} {w : World} (hT : TCells w ao g 0 (ttab 2 1 (fm [[(1 : Rat)], [(1 : Rat)]]))) (hF : FCells w ao2 g2 0 (told 2 (fv [(0 : Rat), 3]))) (hF3 : FCells w ao3 g3 0 (told 2 (fv [(2 : Rat), 1]))) (hP : HasT w) :
  Calls Tryz.prog 22 #[.slice ao 2 c, .slice ao2 2 c2, .slice ao3 2 c3] w fun e w' => (∃ g, e = .returned (.tuple #[.slice (some ⟨g, 0, none⟩) 1 1, .int .i64 0]) ∧ FCells w' (some ⟨g, 0, none⟩) g 0 (told 1 (fv [(1 : Rat)]))) ∧ Below w.heap.size w w' :=
 (qft (by decide) (by decide) (by decide) (by decide) (qcD (by decide +kernel)) (qcc (by decide +kernel)) (qcc (by decide +kernel)) (by decide +kernel) hT hF hF3 hP).mono fun _ _ h => ⟨h.1.only (qgO (fm [[(1 / 3 : Rat)]]) (by decide +kernel)) (show ∀ i, i < 1 → _ from (by decide +kernel)) (qcc (by decide +kernel)), h.2⟩
theorem ex9 {ao : Option Addr} {g c : Nat} {ao2 : Option Addr} {g2 c2 : Nat} {ao3 : Option Addr} {g3 c3 : Nat} {w : World} (hT : TCells w ao g 0 (ttab 1 2 (fm [[(1 : Rat), 1]]))) (hF : FCells w ao2 g2 0 (told 1 (fv [(1 : Rat)]))) (hF3 : FCells w ao3 g3 0 (told 1 (fv [(1 : Rat)]))) (hP : HasT w) :
  Calls Tryz.prog 22 #[.slice ao 1 c, .slice ao2 1 c2, .slice ao3 1 c3] w fun e w' => e = .returned (.tuple #[.slice none 0 0, .int .i64 7]) ∧ Below w.heap.size w w' :=
 (qft (by decide) (by decide) (by decide) (by decide) (qcD (by decide +kernel)) (qcc (by decide +kernel)) (qcc (by decide +kernel)) (by decide +kernel) hT hF hF3 hP).mono fun _ _ h => ⟨h.1.sing ⟨(fv [(1 : Rat), -1]), ⟨0, by decide, (by decide +kernel)⟩, show ∀ i, i < 2 → _ from (by decide +kernel)⟩, h.2⟩
theorem ex10 {ao : Option Addr} {g c : Nat} {ao2 : Option Addr} {g2 c2 : Nat} {ao3 : Option Addr} {g3 c3 : Nat} {ao4 : Option Addr} {g4 c4 : Nat} {w : World} (hT : TCells w ao g 0 (ttab 2 1 (fm [[(1 : Rat)], [(2 : Rat)]]))) (hF : FCells w ao2 g2 0 (told 2 (fv [(3 : Rat), 4]))) (hF3 : FCells w ao3 g3 0 (told 2 (fv [(1 : Rat), 1 / 2]))) (hF4 : FCells w ao4 g4 0 (told 1 (fv [(1 : Rat)]))) (hP : HasT w) :
  Calls Tryz.prog 24 #[.slice ao 2 c, .slice ao2 2 c2, .slice ao3 2 c3, .slice ao4 1 c4] w fun e w' => e = .returned (.tuple #[.agg #[.string ⟨#[54]⟩, .string ⟨#[49]⟩], .int .i64 0]) ∧ Below w.heap.size w w' := by
 refine (qhG (by decide) (by decide) (by decide) (by decide) (qcD (by decide +kernel)) (qcc (by decide +kernel)) (qcc (by decide +kernel)) (qcc (by decide +kernel)) (by decide +kernel) hT hF hF3 hF4 hP).mono ?_
 rintro e w' ⟨h, hb⟩
 rw [show msR 2 1 (fm [[(1 : Rat)], [(2 : Rat)]]) (fv [(3 : Rat), 4]) (fv [(1 : Rat), 1 / 2]) (fv [(1 : Rat)]) = 6 by decide +kernel] at h
 rcases h with ⟨_, rfl⟩ | ⟨h, _⟩
 ·exact ⟨by rw [qdG, ft_6], hb⟩
 ·exact absurd (qi5 (q := 6) (by decide +kernel)) h
theorem ex11 {ao : Option Addr} {g c : Nat} {ao2 : Option Addr} {g2 c2 : Nat} {ao3 : Option Addr} {g3 c3 : Nat} {ao4 : Option Addr} {g4 c4 : Nat} {w : World} (hT : TCells w ao g 0 (ttab 1 1 (fm [[(1 : Rat)]]))) (hF : FCells w ao2 g2 0 (told 1 (fv [(0 : Rat)]))) (hF3 : FCells w ao3 g3 0 (told 1 (fv [(-1 : Rat)]))) (hF4 : FCells w ao4 g4 0 (told 1 (fv [(1 : Rat)]))) (hP : HasT w) :
  Calls Tryz.prog 24 #[.slice ao 1 c, .slice ao2 1 c2, .slice ao3 1 c3, .slice ao4 1 c4] w fun e w' => e = .returned (.tuple #[.agg #[.string ⟨#[]⟩, .string ⟨#[]⟩], .int .i64 2]) ∧ Below w.heap.size w w' :=
 meas_neg (by decide) (by decide) (by decide) (by decide) (qcD (by decide +kernel)) (qcc (by decide +kernel)) (qcc (by decide +kernel)) (qcc (by decide +kernel)) ⟨0, by decide, (by decide +kernel)⟩ hT hF hF3 hF4 hP
theorem ex12 (w : World) : Calls Tryz.prog 12 #[.slice none 0 0] w fun e w' => e = .returned (.int .i64 60) ∧ Below w.heap.size w w' :=
 qh2 (ao := none) (g := 0) (c := 0) (t := []) rfl (by decide) (fun k hk => absurd hk (by omega)) ⟨fun h => absurd h (by decide), fun k hk => absurd hk (by simp)⟩ (fun h => absurd h.r1 (by decide))
theorem ex13 {ao : Option Addr} {g c : Nat} {w : World} (hT : TCells w ao g 0 [told 1 (fv [(1 : Rat)]), told 2 (fv [(1 : Rat), 2])]) :
  Calls Tryz.prog 12 #[.slice ao 2 c] w fun e w' => e = .returned (.int .i64 60) ∧ Below w.heap.size w w' :=
 qh2 rfl (by decide) (fun k hk => by
  rcases (show k = 0 ∨ k = 1 by omega) with rfl | rfl
  ·exact (by decide : 1 ≤ 1000)
  ·exact (by decide : 2 ≤ 1000)) hT (fun h => absurd (h.rows 1 (by decide)).1 (by decide))
theorem sc1 (W : World) (s : ByteArray) {g : Nat} (hg : g = W.heap.size) : SCells (W.alloc (.cells #[.string s] 9)) g 0 [s] := by
 subst hg; exact SCells.row (L := [s]) (heap_alloc_new W _)
theorem sc2 (W : World) (s t : ByteArray) {g : Nat} (hg : g = W.heap.size) : SCells (W.alloc (.cells #[.string s, .string t] 9)) g 0 [s, t] := by
 subst hg; exact SCells.row (L := [s, t]) (heap_alloc_new W _)
theorem q_at (n : Nat) {w : World} {g : Nat} {L : List ByteArray} {l : List Rat} (hs : SCells w g 0 L) (hL : L.length = n) (hl : l.length = n) (hn : n ≤ 1000) (h : L.map qf = l.map ftxt) (hz : ∀ s ∈ L, s.size ≤ 65536) :
  Calls Tryz.prog 30 #[.slice (some ⟨g, 0, none⟩) n n] w fun e w' => ∃ (ao : Option Addr) (g c : Nat), e = .returned (.slice ao n c) ∧ FCells w' ao g 0 (told n (fv l)) ∧ Below w.heap.size w w' := by
 refine (q_any g n n L w hL hn hs (qgY hz)).mono ?_
 rintro e w' ⟨ao, g, c, rfl, hf, _, hb⟩
 rw [qhU n hl h] at hf
 exact ⟨ao, g, c, rfl, hf, hb⟩
theorem cmp_val (p q : Rat) : (cmp3 (p.num * (q.den : Int) + -(q.num * (p.den : Int))) 0 = 0 ↔ p = q) ∧ (p ≤ q → cmp3 (p.num * (q.den : Int) + -(q.num * (p.den : Int))) 0 ≤ 0) := by
 have h1 : p ≤ q ↔ p.num * q.den ≤ q.num * p.den := Rat.le_iff p q
 have h2 : q ≤ p ↔ q.num * p.den ≤ p.num * q.den := Rat.le_iff q p
 generalize p.num * (q.den : Int) = X at *
 generalize q.num * (p.den : Int) = Y at *
 unfold cmp3
 refine ⟨⟨fun h => ?_, fun h => ?_⟩, fun h => ?_⟩
 ·have : X = Y := by
   split at h
   ·omega
   ·split at h
    ·omega
    ·omega
  exact Rat.le_antisymm (h1.2 (by omega)) (h2.2 (by omega))
 ·subst h
  have a := h1.1 Rat.le_refl
  have b := h2.1 Rat.le_refl
  rw [if_neg (by omega), if_pos (by omega)]
 ·have := h1.1 h
  split
  ·decide
  ·rw [if_pos (by omega)]; decide
theorem qjC {R n : Nat} {f : Nat → Nat → Rat} {b w : Nat → Rat} {r c : Nat} (hr : r < n) (hc : c < n) : normR R n f b w r c = sumQ R fun i => w i * (f i r * f i c) :=
 qb0 fun i _ => by unfold gR; rw [if_pos hr, if_pos hc]
theorem qll {R n : Nat} {f : Nat → Nat → Rat} {b w : Nat → Rat} {r : Nat} (hr : r < n) : normR R n f b w r n = sumQ R fun i => w i * (f i r * b i) :=
 qb0 fun i _ => by unfold gR; rw [if_pos hr, if_neg (qbO n)]
theorem best_ok {R n : Nat} (hR : R ≤ 8) (hn : n ≤ 4) {f : Nat → Nat → Rat} {b w x y : Nat → Rat} (hf : ∀ i j, Sm (f i j)) (hb : ∀ i, Sm (b i)) (hw : ∀ i, Sm (w i)) (hy : ∀ i, Sm (y i)) (hw0 : ∀ i, 0 ≤ w i)
  (hs : ¬ Sing n (normR R n f b w)) (hx : qcy n (normR R n f b w) (fun r => normR R n f b w r n) x) :
  qb9 n x ∧ Short (msR R n f b w x) ∧ Short (msR R n f b w y) ∧ msR R n f b w x ≤ msR R n f b w y ∧ (msR R n f b w x = msR R n f b w y ↔ told n x = told n y) := by
 have hs' : ¬ Sing n (fun r c => sumQ R fun i => w i * (f i r * f i c)) := fun h => hs (h.congr fun r hr c hc => (qjC hr hc).symm)
 have hx' : qcy n (fun r c => sumQ R fun i => w i * (f i r * f i c)) (fun r => sumQ R fun i => w i * (f i r * b i)) x := hx.congr (fun r hr c hc => qjC hr hc) (fun r hr => qll hr) (fun _ _ => rfl)
 obtain ⟨h1, h2⟩ := qkc hR hn hf hb hw hs' hx'
 obtain ⟨h3, h4⟩ := best_law (R := R) f b w x y (fun i _ => hw0 i) (fun r hr => hx' r hr) hs'
 exact ⟨h1, h2, qiZ hR hn hf hb hw hy, h3, h4.trans ⟨fun h => qdk h, fun h => told_inj h⟩⟩
theorem cmp_txt (p q : Rat) (hp : Short p) (hq : Short q) (w : World) :
  Calls Tryz.prog 29 #[fstr p, fstr q] w fun e w' => ∃ c : Int, e = .returned (.tuple #[.int .i64 c, .int .i64 0]) ∧ (c = 0 ↔ p = q) ∧ (p ≤ q → c ≤ 0) ∧ Below w.heap.size w w' := by
 refine (fcmp_any _ _ _ _ w).mono ?_
 rintro e w' ⟨⟨_, rfl⟩ | ⟨h, _⟩, hb⟩
 ·have e1 : fval (frac.wtxt p.num).data.toList (num p.den).data.toList = p := qc6 p
  have e2 : fval (frac.wtxt q.num).data.toList (num q.den).data.toList = q := qc6 q
  rw [e1, e2]
  obtain ⟨h1, h2⟩ := cmp_val p q
  exact ⟨_, rfl, h1, h2, hb⟩
 ·exact absurd ⟨qdV hp, qdV hq⟩ h
theorem qkI (hworks : ∀ W : World, HasT W → Calls Tryz.prog 10 #[] W fun e w' => e = .returned (.bool true) ∧ Below W.heap.size W w')
  (r1 c1 : Nat) (N1 : List Int) (D1 : List Nat) (v1 : Value) (r2 c2 : Nat) (N2 : List Int) (D2 : List Nat) (v2 : Value) (w : World) (h1 : qc4 w v1 r1 c1 N1 D1) (h2 : qc4 w v2 r2 c2 N2 D2) (hP : HasT w) :
  Calls Tryz.prog 5 #[v1, v2] w fun e w' => e = .returned (.bool true) ∧ Below w.heap.size w w' := by
 have HW := qH hworks
 have HA := qH (qA h1 (qA h2 hP))
 obtain ⟨a, b, off, nn, cc, a', b', off', n', cc', rfl, _⟩ := h1
 obtain ⟨ax, bx, offx, nnx, ccx, ax', bx', offx', nx', ccx', rfl, _⟩ := h2
 obtain ⟨F, hF⟩ : ∃ F : Nat → Nat → Rat, F = fun i j => drq N1 D1 (5 * i + j) := ⟨_, rfl⟩
 obtain ⟨B, hB⟩ : ∃ B : Nat → Rat, B = fun i => drq N1 D1 (7 + 3 * i) := ⟨_, rfl⟩
 obtain ⟨V, hV⟩ : ∃ V : Nat → Rat, V = fun i => qabs (drq N1 D1 (2 * i + 1)) := ⟨_, rfl⟩
 obtain ⟨Y, hY⟩ : ∃ Y : Nat → Rat, Y = fun i => drq N2 D2 (2 + 3 * i) := ⟨_, rfl⟩
 have HT := qH (fun (W : World) (h : Below w.heap.size w W) => qiG r1 c1 N1 D1 _ W (HA.out.1.below h))
 have HL := qH (fun (W : World) (h : Below w.heap.size w W) (n : Nat) (hn : n ≤ 1000) => qgp n 7 hn (by decide) r1 c1 N1 D1 _ W (HA.out.1.below h))
 have HWt := qH (fun (W : World) (h : Below w.heap.size w W) (n : Nat) (hn : n ≤ 1000) => qja n hn r1 c1 N1 D1 _ W (HA.out.1.below h))
 have HLo := qH (fun (W : World) (h : Below w.heap.size w W) (n : Nat) (hn : n ≤ 1000) => qgp n 2 hn (by decide) r2 c2 N2 D2 _ W (HA.out.2.1.below h))
 rw [← hF] at HT
 rw [← hB] at HL
 rw [← hV] at HWt
 rw [← hY] at HLo
 have hSF : ∀ i j, Sm (F i j) := fun i j => by rw [hF]; exact qeE _ _ _
 have hSB : ∀ i, Sm (B i) := fun i => by rw [hB]; exact qeE _ _ _
 have hSV : ∀ i, Sm (V i) := fun i => by rw [hV]; exact (qeE _ _ _).abs
 have hSY : ∀ i, Sm (Y i) := fun i => by rw [hY]; exact qeE _ _ _
 have hV0 : ∀ i, 0 ≤ V i := fun i => by rw [hV]; exact qi1 _
 obtain ⟨R, hR⟩ : ∃ R, 1 + r1 % 8 = R := ⟨_, rfl⟩
 obtain ⟨n, hn⟩ : ∃ n, 1 + c1 % 4 = n := ⟨_, rfl⟩
 have hR1 : 1 ≤ R := by omega
 have hR8 : R ≤ 8 := by omega
 have hn1 : 1 ≤ n := by omega
 have hn4 : n ≤ 4 := by omega
 rw [hR, hn] at HT
 have HS := qH (qA hSF (qA hSB (qA hSV (qA hSY hV0))))
 clear hF hB hV hY hSF hSB hSV hSY hV0 hR hn hP hworks
 obtain ⟨W1, hW1⟩ : ∃ W1, W1 = (w.alloc (.cells #[.int .u8 (r1 : Int), .int .u8 (c1 : Int), .slice a nn cc, .slice a' n' cc'] 29)).alloc (.cells #[.int .u8 (r2 : Int), .int .u8 (c2 : Int), .slice ax nnx ccx, .slice ax' nx' ccx'] 29) := ⟨_, rfl⟩
 have hb1 : Below w.heap.size w W1 := hW1 ▸ qbW (qbW qB qN) qN
 have hr1 : W1.heap[w.heap.size]? = some (.cells #[.int .u8 (r1 : Int), .int .u8 (c1 : Int), .slice a nn cc, .slice a' n' cc'] 29 (0, 0)) := by rw [hW1, qL _ _ _ (by simp only [qaa]; omega)]; exact qM _ _ _ rfl
 have hr2 : W1.heap[w.heap.size + 1]? = some (.cells #[.int .u8 (r2 : Int), .int .u8 (c2 : Int), .slice ax nnx ccx, .slice ax' nx' ccx'] 29 (0, 0)) := by rw [hW1]; exact qM _ _ _ (by simp)
 have H1 := qH (qA hb1 (qA hr1 hr2))
 clear hb1 hr1 hr2
 go_enter Tryz.func5, Tryz.ntmps5
 go_wp2_with fail
 rw [← hW1]
 clear hW1
 refine (HW.out W1 (HA.out.2.2.below H1.out.1)).mono ?_
 rintro e w2 ⟨rfl, hb2⟩
 have H2 := qH (qA (H1.out.1.trans (hb2.mono H1.out.1.size)) (qA (zkeep hb2 _ _ H1.out.2.1) (zkeep hb2 _ _ H1.out.2.2)))
 clear hb2
 go_wp2_with ((with_reducible refine qbY rfl 29 _ rfl (w.heap.size) ?_ 29 #[.int .u8 (r1 : Int), .int .u8 (c1 : Int), .slice a nn cc, .slice a' n' cc'] _ H2.out.2.1 Tryz.underlying29 ?_ 4 ?_ ?_ ?_); (next => rfl); (next => rfl); (next => kernel_rfl); (next => rfl))
 refine (HT.out _ H2.out.1).mono ?_
 rintro e w3 ⟨ao, g, cap, rfl, hT, hcap, hb3⟩
 have hst : Below w3.heap.size w3 w3 := Below.refl _ _
 have hstD : Below w3.heap.size w3 w3.drew := hst.drew
 have R1 := zkeep hb3 _ _ H2.out.2.1
 have R2 := zkeep hb3 _ _ H2.out.2.2
 have l0 := (qG R1).1
 have C0 : ∀ W, Below w3.heap.size w3 W → W.cell? ⟨w.heap.size, 0, none⟩ = some (.int .u8 (r1 : Int)) := fun W h => (h.cell (p := ⟨w.heap.size, 0, none⟩) l0).trans (cell_of_row _ _ 0 _ _ _ R1)
 have C1 : ∀ W, Below w3.heap.size w3 W → W.cell? ⟨w.heap.size, 1, none⟩ = some (.int .u8 (c1 : Int)) := fun W h => (h.cell (p := ⟨w.heap.size, 1, none⟩) l0).trans (cell_of_row _ _ 1 _ _ _ R1)
 have C2 : ∀ W, Below w3.heap.size w3 W → W.cell? ⟨w.heap.size, 2, none⟩ = some (.slice a nn cc) := fun W h => (h.cell (p := ⟨w.heap.size, 2, none⟩) l0).trans (cell_of_row _ _ 2 _ _ _ R1)
 have C3 : ∀ W, Below w3.heap.size w3 W → W.cell? ⟨w.heap.size, 3, none⟩ = some (.slice a' n' cc') := fun W h => (h.cell (p := ⟨w.heap.size, 3, none⟩) l0).trans (cell_of_row _ _ 3 _ _ _ R1)
 have H3 := qH (qA (H2.out.1.trans (hb3.mono H2.out.1.size)) (qA R2 hT))
 clear hb3 R1 R2 hT
 go_wp2_with fail
 go_region_held3 (fun W => Below w3.heap.size w3 W) (first | with_reducible exact hst | with_reducible exact hstD | with_reducible exact V5 | with_reducible exact V4) (first | (go_at_call 27; refine (HL.out _ (H3.out.1.trans (hstD.mono H3.out.1.size)) R (by omega)).mono ?_; rintro e w4 ⟨a4, g4, c4, rfl, hf4, _, hb4⟩; have V4 : Below w3.heap.size w3 w4 := hstD.trans (hb4.mono qN); have G4 := qH hf4; clear hb4 hf4) | (go_at_call 28; refine (HWt.out _ (H3.out.1.trans (V4.mono H3.out.1.size)) R (by omega)).mono ?_; rintro e w5 ⟨a5, g5, c5, rfl, hf5, _, hb5⟩; have V5 : Below w3.heap.size w3 w5 := V4.trans (hb5.mono V4.size); have G5 := qH (qA (G4.out.below hb5) hf5); clear hb5 hf5))
 have hm0 : ∀ (x : Nat → Rat), qcy n (normR R n F B V) (fun r => normR R n F B V r n) x → ¬ Sing n (normR R n F B V) → _ := fun x hx hs => best_ok (x := x) (y := Y) hR8 hn4 HS.out.1 HS.out.2.1 HS.out.2.2.1 HS.out.2.2.2.1 HS.out.2.2.2.2 hs hx
 have HM0 := qH hm0
 have H5 := qH (qA (H3.out.1.trans (V5.mono H3.out.1.size)) (qA (zkeep V5 _ _ H3.out.2.1) (qA (H3.out.2.2.below V5) (qA G5.out.1 G5.out.2))))
 have hT := H5.out.2.2.1
 have hRow := hT.row 0 (by rw [qce]; omega)
 clear C0 C1 C2 C3 l0 hst hstD V4 V5 hm0
 go_wp2_with fail
 refine (qft hR1 (by omega) hn1 (by omega) (fun i _ => fun j _ => (HS.out.1 i j).short) (fun i _ => (HS.out.2.1 i).short) (fun i _ => (HS.out.2.2.1 i).short) (fun i _ => HS.out.2.2.2.2 i) H5.out.2.2.1 H5.out.2.2.2.1 H5.out.2.2.2.2 (HA.out.2.2.below H5.out.1)).mono ?_
 rintro e w6 ⟨hl, hb6⟩
 have H6 := qH (qA (H5.out.1.trans (hb6.mono H5.out.1.size)) (qA (zkeep hb6 _ _ H5.out.2.1) (qA (hT.below hb6) (qA (H5.out.2.2.2.1.below hb6) (H5.out.2.2.2.2.below hb6)))))
 clear hb6 hT hRow
 rcases hl with ⟨_, rfl⟩ | ⟨hs, x, hx, ht⟩
 ·go_wp2_with fail
  go_ret
  exact ⟨rfl, H6.out.1⟩
 ·obtain ⟨sx, sm, sy, hle, hiff⟩ := HM0.out x hx hs
  obtain ⟨gx, rfl, hfx⟩ := ht.short sx
  have HX := qH (qA sx (qA sm (qA sy (qA hle (qA hiff hfx)))))
  clear hs hx ht sx sm sy hle hiff hfx
  have hT := H6.out.2.2.1
  obtain ⟨ra, rb, ro, rc, hrow, hrf⟩ := hT.row 0 (by rw [qce]; omega)
  rw [qdi (by omega), qbZ, qaK] at hrow
  have haddr := hT.addr (by rw [qce]; omega)
  subst haddr
  have hst : Below w6.heap.size w6 w6 := Below.refl _ _
  have hstD : Below w6.heap.size w6 w6.drew := hst.drew
  have R2 := H6.out.2.1
  have l0 := (qG R2).1
  have lr : g < w6.heap.size := qag w6 _ hrow
  have D0 : ∀ W, Below w6.heap.size w6 W → W.cell? ⟨w.heap.size + 1, 0, none⟩ = some (.int .u8 (r2 : Int)) := fun W h => (h.cell (p := ⟨w.heap.size + 1, 0, none⟩) l0).trans (cell_of_row _ _ 0 _ _ _ R2)
  have D1 : ∀ W, Below w6.heap.size w6 W → W.cell? ⟨w.heap.size + 1, 1, none⟩ = some (.int .u8 (c2 : Int)) := fun W h => (h.cell (p := ⟨w.heap.size + 1, 1, none⟩) l0).trans (cell_of_row _ _ 1 _ _ _ R2)
  have D2 : ∀ W, Below w6.heap.size w6 W → W.cell? ⟨w.heap.size + 1, 2, none⟩ = some (.slice ax nnx ccx) := fun W h => (h.cell (p := ⟨w.heap.size + 1, 2, none⟩) l0).trans (cell_of_row _ _ 2 _ _ _ R2)
  have D3 : ∀ W, Below w6.heap.size w6 W → W.cell? ⟨w.heap.size + 1, 3, none⟩ = some (.slice ax' nx' ccx') := fun W h => (h.cell (p := ⟨w.heap.size + 1, 3, none⟩) l0).trans (cell_of_row _ _ 3 _ _ _ R2)
  have DR : ∀ W, Below w6.heap.size w6 W → W.cell? ⟨g, 0, none⟩ = some (.slice ra n rc) := fun W h => (h.cell (p := ⟨g, 0, none⟩) lr).trans hrow
  have hRi : (0 : Int) < R := by omega
  have hRn : 0 < R := by omega
  clear hT hrf R2 hrow
  go_wp2_with fail
  go_region_held3 (fun W => Below w6.heap.size w6 W) (first | with_reducible exact hst | with_reducible exact hstD | with_reducible exact V7) (first | (go_at_call 27; refine (HLo.out _ (H6.out.1.trans (hstD.mono H6.out.1.size)) n (by omega)).mono ?_; rintro e w7 ⟨a7, g7, c7, rfl, hf7, _, hb7⟩; have V7 : Below w6.heap.size w6 w7 := hstD.trans (hb7.mono qN); have G7 := qH hf7; clear hb7 hf7))
  have H7 := qH (qA (H6.out.1.trans (V7.mono H6.out.1.size)) (qA (H6.out.2.2.1.below V7) (qA (H6.out.2.2.2.1.below V7) (qA (H6.out.2.2.2.2.below V7) (qA (HX.out.2.2.2.2.2.below V7) G7.out)))))
  clear D0 D1 D2 D3 DR l0 lr hst hstD V7
  go_wp2_with fail
  refine (qhG hR1 (by omega) hn1 (by omega) (fun i _ => fun j _ => (HS.out.1 i j).short) (fun i _ => (HS.out.2.1 i).short) (fun i _ => (HS.out.2.2.1 i).short) HX.out.1 (fun i _ => HS.out.2.2.2.2 i) H7.out.2.1 H7.out.2.2.1 H7.out.2.2.2.1 H7.out.2.2.2.2.1 (HA.out.2.2.below H7.out.1)).mono ?_
  rintro e w8 ⟨⟨_, rfl⟩ | ⟨h, _⟩, hb8⟩
  case inr => exact absurd HX.out.2.1 h
  obtain ⟨p1, hp1⟩ : ∃ p1, frac.wtxt (msR R n F B V x).num = p1 := ⟨_, rfl⟩
  obtain ⟨p2, hp2⟩ : ∃ p2, num (msR R n F B V x).den = p2 := ⟨_, rfl⟩
  rw [show fstr (msR R n F B V x) = .agg #[.string p1, .string p2] by unfold fstr; rw [hp1, hp2]]
  obtain ⟨W9, hW9⟩ : ∃ W9, W9 = w8.alloc (.cells #[.string p1, .string p2] 46) := ⟨_, rfl⟩
  have hb89 : Below w8.heap.size w8 W9 := hW9 ▸ qbW qB qN
  have hb79 := hb8.trans (hb89.mono hb8.size)
  have r9 : W9.heap[w8.heap.size]? = some (.cells #[.string p1, .string p2] 46 (0, 0)) := by rw [hW9]; exact qM _ _ _ rfl
  have H9 := qH (qA (H7.out.1.trans (hb79.mono H7.out.1.size)) (qA (H7.out.2.1.below hb79) (qA (H7.out.2.2.1.below hb79) (qA (H7.out.2.2.2.1.below hb79) (qA (H7.out.2.2.2.2.1.below hb79) (qA (H7.out.2.2.2.2.2.below hb79) r9))))))
  have HW9 := qH hW9
  have HP1 := qH (qA hp1 hp2)
  clear hb8 hb89 hb79 r9 hW9 hp1 hp2
  go_wp2_with fail
  rw [← HW9.out]
  refine (qhG hR1 (by omega) hn1 (by omega) (fun i _ => fun j _ => (HS.out.1 i j).short) (fun i _ => (HS.out.2.1 i).short) (fun i _ => (HS.out.2.2.1 i).short) (fun i _ => (HS.out.2.2.2.1 i).short) (fun i _ => HS.out.2.2.2.2 i) H9.out.2.1 H9.out.2.2.1 H9.out.2.2.2.1 H9.out.2.2.2.2.2.1 (HA.out.2.2.below H9.out.1)).mono ?_
  rintro e w10 ⟨⟨_, rfl⟩ | ⟨h, _⟩, hb10⟩
  case inr => exact absurd HX.out.2.2.1 h
  obtain ⟨q1, hq1⟩ : ∃ q1, frac.wtxt (msR R n F B V Y).num = q1 := ⟨_, rfl⟩
  obtain ⟨q2, hq2⟩ : ∃ q2, num (msR R n F B V Y).den = q2 := ⟨_, rfl⟩
  rw [show fstr (msR R n F B V Y) = .agg #[.string q1, .string q2] by unfold fstr; rw [hq1, hq2]]
  obtain ⟨W11, hW11⟩ : ∃ W11, W11 = w10.alloc (.cells #[.string q1, .string q2] 46) := ⟨_, rfl⟩
  have hb1011 : Below w10.heap.size w10 W11 := hW11 ▸ qbW qB qN
  have hb911 := hb10.trans (hb1011.mono hb10.size)
  have r11 : W11.heap[w10.heap.size]? = some (.cells #[.string q1, .string q2] 46 (0, 0)) := by rw [hW11]; exact qM _ _ _ rfl
  have H11 := qH (qA (H9.out.1.trans (hb911.mono H9.out.1.size)) (qA (H9.out.2.2.2.2.1.below hb911) (H9.out.2.2.2.2.2.1.below hb911)))
  have ra9 := zkeep hb911 _ _ H9.out.2.2.2.2.2.2
  rw [hW11] at ra9 r11
  have HR11 := qH (qA ra9 r11)
  have HW11 := qH hW11
  have hcmp := fun (W : World) => cmp_txt (msR R n F B V x) (msR R n F B V Y) HX.out.2.1 HX.out.2.2.1 W
  rw [show fstr (msR R n F B V x) = .agg #[.string p1, .string p2] by unfold fstr; rw [HP1.out.1, HP1.out.2], show fstr (msR R n F B V Y) = .agg #[.string q1, .string q2] by unfold fstr; rw [hq1, hq2]] at hcmp
  have HC := qH hcmp
  clear hb10 hb1011 hb911 r11 hW11 hq1 hq2 ra9 hcmp
  go_wp2_with (first | ((with_reducible refine qbY rfl 46 _ rfl (w8.heap.size) ?_ 46 #[.string p1, .string p2] _ HR11.out.1 Tryz.underlying46 ?_ 2 ?_ ?_ ?_); (next => rfl); (next => rfl); (next => kernel_rfl); (next => rfl)) | ((with_reducible refine qbY rfl 46 _ rfl (w10.heap.size) ?_ 46 #[.string q1, .string q2] _ HR11.out.2 Tryz.underlying46 ?_ 2 ?_ ?_ ?_); (next => rfl); (next => rfl); (next => kernel_rfl); (next => rfl)))
  rw [← HW11.out]
  refine (HC.out _).mono ?_
  rintro e w12 ⟨c, rfl, hc0, hcle, hb12⟩
  have hc := hcle HX.out.2.2.2.1
  have HS12 := qH (qgw (some ⟨gx, 0, none⟩) gx 0 n n (told n x) a7 g7 0 n c7 (told n Y) w12 (qbZ _ _) (by omega) (H11.out.2.1.below hb12) (qbZ _ _) (by omega) (H11.out.2.2.below hb12))
  have H12 := qH (H11.out.1.trans (hb12.mono H11.out.1.size))
  have HE := qH (hc0.trans HX.out.2.2.2.2.1)
  clear hb12 hc0 hcle
  go_wp2_with fail
  refine HS12.out.mono ?_
  rintro e w13 ⟨ok, rfl, hok, hb13⟩
  have H13 := qH (H12.out.trans (hb13.mono H12.out.size))
  have hoc : ok = decide (c = 0) := by
   have := HE.out
   by_cases h : c = 0
   ·rw [decide_eq_true h]; exact hok.2 (this.1 h)
   ·rw [decide_eq_false h]
    cases ok with
    | true => exact absurd (this.2 (hok.1 rfl)) h
    | false => rfl
  clear hok hb13
  by_cases h0 : c = 0
  ·subst h0
   have : ok = true := by rw [hoc]; rfl
   subst this
   clear hoc
   go_wp2_with fail
   go_ret
   exact ⟨rfl, H13.out⟩
  ·have h0b : (c == 0) = false := by rw [beq_eq_false_iff_ne]; exact h0
   have : ok = false := by rw [hoc, decide_eq_false h0]
   subst this
   clear hoc
   go_wp2_with fail
   go_ret
   exact ⟨rfl, H13.out⟩
def qcr (W : World) (vs : List Value) (t : Tbl) : Prop := vs.length = t.length ∧ ∀ k, k < t.length → ∃ (ra : Option Addr) (rb ro rc : Nat), vs.getD k undef = .slice ra (t.getD k []).length rc ∧ FCells W ra rb ro (t.getD k [])
theorem qcr.below {W W' : World} {vs : List Value} {t : Tbl} (h : qcr W vs t) (hb : Below W.heap.size W W') : qcr W' vs t :=
 ⟨h.1, fun k hk => by
  obtain ⟨ra, rb, ro, rc, h1, h2⟩ := h.2 k hk
  exact ⟨ra, rb, ro, rc, h1, h2.below hb⟩⟩
theorem TCells.vals {W : World} {ao : Option Addr} {b off : Nat} {t : Tbl} (h : TCells W ao b off t) : ∃ vs, qcr W vs t ∧ VCells W ao b off vs := by
 refine ⟨(List.range t.length).map fun k => (W.cell? ⟨b, off + k, none⟩).getD undef, ⟨by rw [qaG, qbq], fun k hk => ?_⟩, ⟨fun h0 => h.addr (by rw [qaG, qbq] at h0; exact h0), fun k hk => ?_⟩⟩
 ·obtain ⟨ra, rb, ro, rc, h1, h2⟩ := h.row k hk
  refine ⟨ra, rb, ro, rc, ?_, h2⟩
  rw [qab, qaA, qaV hk]
  show (W.cell? ⟨b, off + k, none⟩).getD undef = _
  rw [h1]; rfl
 ·rw [qaG, qbq] at hk
  obtain ⟨ra, rb, ro, rc, h1, h2⟩ := h.row k hk
  rw [qab, qaA, qaV hk, h1]
  show _ = some ((W.cell? ⟨b, off + k, none⟩).getD undef)
  rw [h1]; rfl
theorem qcr.tcells {W : World} {ao : Option Addr} {b off : Nat} {vs : List Value} {t : Tbl} (h : qcr W vs t) (hv : VCells W ao b off vs) : TCells W ao b off t :=
 ⟨fun h0 => hv.addr (by rw [h.1]; exact h0), fun k hk => by
  obtain ⟨ra, rb, ro, rc, h1, h2⟩ := h.2 k hk
  exact ⟨ra, rb, ro, rc, by rw [← h1]; exact hv.cell k (by rw [h.1]; exact hk), h2⟩⟩
theorem qcr.append {W : World} {vs vs2 : List Value} {t t2 : Tbl} (h : qcr W vs t) (h2 : qcr W vs2 t2) : qcr W (vs ++ vs2) (t ++ t2) := by
 refine ⟨by rw [qaj, qaj, h.1, h2.1], fun k hk => ?_⟩
 rw [qaj] at hk
 by_cases e : k < t.length
 ·have e1 : (vs ++ vs2).getD k undef = vs.getD k undef := by rw [qab, qaC (by rw [h.1]; exact e), ← qab]
  have e2 : (t ++ t2).getD k [] = t.getD k [] := by rw [qab, qaC e, ← qab]
  rw [e1, e2]; exact h.2 k e
 ·have e1 : (vs ++ vs2).getD k undef = vs2.getD (k - t.length) undef := by rw [qab, qaF (by rw [h.1]; omega), h.1, ← qab]
  have e2 : (t ++ t2).getD k [] = t2.getD (k - t.length) [] := by rw [qab, qaF (by omega), ← qab]
  rw [e1, e2]; exact h2.2 _ (by omega)
theorem qcr.one {W : World} {ra : Option Addr} {rb ro m rc : Nat} {l : List FT} (hl : l.length = m) (h : FCells W ra rb ro l) : qcr W [.slice ra m rc] [l] :=
 ⟨rfl, fun k hk => by
  obtain rfl : k = 0 := by simp at hk; omega
  exact ⟨ra, rb, ro, rc, by rw [show ([l] : Tbl).getD 0 [] = l from rfl, hl]; rfl, h⟩⟩
theorem qcr.not {W : World} {vs : List Value} {t : Tbl} (h : qcr W vs t) : ∀ u ∈ vs, qcv u ∧ u.oneCell' = true := fun u hu => by
 obtain ⟨k, hk, rfl⟩ := List.getElem_of_mem hu
 obtain ⟨ra, rb, ro, rc, h1, _⟩ := h.2 k (by rw [← h.1]; exact hk)
 rw [qab, qai hk] at h1
 have h2 : vs[k] = .slice ra (t.getD k []).length rc := h1
 rw [h2]
 exact ⟨qcX _ _ _, rfl⟩
theorem qjn : ∀ y ∈ (Value.agg #[.string ⟨#[]⟩, .string ⟨#[]⟩]).cells.toList, qcv y := by
 intro y hy
 rcases qa0.1 (show y ∈ [Value.string ⟨#[]⟩, Value.string ⟨#[]⟩] from hy) with rfl | hy
 ·exact qeO _
 ·rw [qar.1 hy]; exact qeO _
theorem qlU : ∀ y ∈ (Value.slice none 0 0).cells.toList, qcv y := by
 intro y hy
 rw [qar.1 (show y ∈ [Value.slice none 0 0] from hy)]; exact qcX _ _ _
theorem qia (l : List FT) : ∀ u ∈ fflat l, qcv u := fun u hu => by
 unfold fflat at hu
 obtain ⟨x, _, hx⟩ := List.mem_flatMap.1 hu
 rcases qa0.1 hx with rfl | hx
 ·exact qeO _
 ·rw [qar.1 hx]; exact qeO _
theorem wp_fracs {w : World} {o : Oper} {a : Act} {K : Act → World → Prop} {Q : Exit → Act → World → Prop} (s x : Operand)
  (ho : o.op = .call { callee := .builtin .append, args := #[s, x], argTypes := #[23, 23] }) {B : Nat} {v : Value} {n m c b off : Nat} {l l2 : List FT} {ad : Option Addr}
  (hBw : B ≤ w.heap.size) (hown : Rws w B 46 2 v n (fflat l)) (hF : FCells w ad b off l2) (hm : l2.length = m) (hm0 : 0 < m) (hs : a.eval s = v) (hx : a.eval x = .slice ad m c) (hn : n + m ≤ 1000000)
  (h : ∀ v' w', Rws w' B 46 2 v' (n + m) (fflat (l ++ l2)) → w.grownBy w' v.ownBlock → K (a.put o.dst v') w') : Oper.wp Tryz.prog o a w K Q := by
 obtain ⟨i0, hi, hz0, hz1, hz2⟩ := info_parts infoF
 have ha := hF.addr (by omega)
 subst ha
 refine qeB s x 23 ho B 46 i0 _ 2 32 Tryz.underlying23 hi hz0 hz1 hz2 rfl (by decide) qjn v n (fflat l) hs hown ⟨b, off, none⟩ m c (fflat l2) hx (by rw [qcw, hm]) hF.src (qib l2) (qia l2) hm0 (by unfold maxLen; omega) (by omega) hBw ?_
 intro v' w' h1 h2 _
 refine h v' w' ?_ h2
 rw [qd6]; exact h1
theorem qmc {w : World} {o : Oper} {a : Act} {K : Act → World → Prop} {Q : Exit → Act → World → Prop} (s x : Operand)
  (ho : o.op = .call { callee := .builtin .append, args := #[s, x], argTypes := #[22, 22] }) {B : Nat} {v : Value} {n m c b off : Nat} {vs vs2 : List Value} {ad : Option Addr}
  (hBw : B ≤ w.heap.size) (hown : Rws w B 23 1 v n vs) (hF : VCells w ad b off vs2) (hnn : ∀ u ∈ vs2, qcv u ∧ u.oneCell' = true) (hm : vs2.length = m) (hm0 : 0 < m) (hs : a.eval s = v) (hx : a.eval x = .slice ad m c) (hn : n + m ≤ 1000000)
  (h : ∀ v' w', Rws w' B 23 1 v' (n + m) (vs ++ vs2) → w.grownBy w' v.ownBlock → K (a.put o.dst v') w') : Oper.wp Tryz.prog o a w K Q := by
 obtain ⟨i0, hi, hz0, hz1, hz2⟩ := info_parts qjs
 have ha := hF.addr (by omega)
 subst ha
 refine qeB s x 22 ho B 23 i0 _ 1 24 Tryz.underlying22 hi hz0 hz1 hz2 rfl (by decide) qlU v n vs hs hown ⟨b, off, none⟩ m c vs2 hx (by rw [hm, qbM]) ?c1 (fun u hu => (hnn u hu).2) (fun u hu => (hnn u hu).1) hm0 (by unfold maxLen; omega) (by omega) hBw ?_
 case c1 =>
  intro j u hj
  rw [Addr.add_mid]
  have hjl := (List.getElem?_eq_some_iff.1 hj).1
  rw [hF.cell j hjl, qab, hj]; rfl
 intro v' w' h1 h2 _
 exact h v' w' h1 h2
section
variable {w : World} {ops : Array Oper} {rest : List Oper} {o : Oper} {a : Act} {K : Act → World → Prop} {Q : Exit → Act → World → Prop} {E : Prop}
theorem qgf (hgd : o.guard = none) (s x : Operand)
  (ho : o.op = .call { callee := .builtin .append, args := #[s, x], argTypes := #[23, 23] }) {B : Nat} {v : Value} {n m c b off : Nat} {l l2 : List FT} {ad : Option Addr}
  (hBw : B ≤ w.heap.size) (hown : Rws w B 46 2 v n (fflat l)) (hF : FCells w ad b off l2) (hm : l2.length = m) (hm0 : 0 < m) (hs : a.eval s = v) (hx : a.eval x = .slice ad m c) (hn : n + m ≤ 1000000)
  (h : ∀ v' w', Rws w' B 46 2 v' (n + m) (fflat (l ++ l2)) → w.grownBy w' v.ownBlock → wpList Tryz.prog ops Q rest (a.put o.dst v') w') : wpList Tryz.prog ops Q (o :: rest) a w :=
 wpList_plain hgd fun _ hK => wp_fracs s x ho hBw hown hF hm hm0 hs hx hn fun v' w' h1 h2 => hK _ _ (h v' w' h1 h2)
theorem qg5 (hgd : o.guard = none) (s x : Operand)
  (ho : o.op = .call { callee := .builtin .append, args := #[s, x], argTypes := #[22, 22] }) {B : Nat} {v : Value} {n m c b off : Nat} {vs vs2 : List Value} {ad : Option Addr}
  (hBw : B ≤ w.heap.size) (hown : Rws w B 23 1 v n vs) (hF : VCells w ad b off vs2) (hnn : ∀ u ∈ vs2, qcv u ∧ u.oneCell' = true) (hm : vs2.length = m) (hm0 : 0 < m) (hs : a.eval s = v) (hx : a.eval x = .slice ad m c) (hn : n + m ≤ 1000000)
  (h : ∀ v' w', Rws w' B 23 1 v' (n + m) (vs ++ vs2) → w.grownBy w' v.ownBlock → wpList Tryz.prog ops Q rest (a.put o.dst v') w') : wpList Tryz.prog ops Q (o :: rest) a w :=
 wpList_plain hgd fun _ hK => qmc s x ho hBw hown hF hnn hm hm0 hs hx hn fun v' w' h1 h2 => hK _ _ (h v' w' h1 h2)
theorem qlW (hgd : o.guard = none) (s x : Operand)
  (ho : o.op = .call { callee := .builtin .append, args := #[s, x], argTypes := #[22, 22] }) {B : Nat} {v : Value} {n m c b off : Nat} {vs vs2 : List Value} {ad : Option Addr}
  (hBw : B ≤ w.heap.size) (hown : Rws w B 23 1 v n vs) (hF : VCells w ad b off vs2) (hnn : ∀ u ∈ vs2, qcv u ∧ u.oneCell' = true) (hm : vs2.length = m) (hm0 : 0 < m) (hs : a.eval s = v) (hx : a.eval x = .slice ad m c) (hn : n + m ≤ 1000000)
  (h : ∀ v' w', Rws w' B 23 1 v' (n + m) (vs ++ vs2) → w.grownBy w' v.ownBlock → K (a.put o.dst v') w') : if Region.wanted o (yielded ops a.tmps) = true then Oper.wp Tryz.prog o a w K Q else E := by
 rw [if_pos (by simp [Region.wanted, hgd])]
 exact qmc s x ho hBw hown hF hnn hm hm0 hs hx hn h
end
theorem qgv (W : World) (e : TypeId) (size : Nat) {B g : Nat} (hg : g = W.heap.size) (hB : B ≤ g) : Rws (W.alloc (.cells #[] e)) B e size (.slice (some ⟨g, 0, none⟩) 0 0) 0 [] := by
 subst hg
 exact ⟨by simp, .inr ⟨W.heap.size, 0, #[], rfl, hB, heap_alloc_new W _, qaf _, by unfold maxLen; omega, by simp, by simp, fun x hx => by simp at hx⟩⟩
theorem qjW (ao : Option Addr) (b off n c : Nat) (l : List FT) (w : World) (hl : l.length = n) (hn0 : 0 < n) (hn : n ≤ 1000) (hF : FCells w ao b off l) :
  Calls Tryz.prog 40 #[.slice ao n c] w fun e w' => ∃ v, e = .returned v ∧ Rws w' w.heap.size 46 2 v n (fflat l) ∧ Below w.heap.size w w' := by
 have ha := hF.addr (by omega)
 subst ha
 have hb1 : Below w.heap.size w (w.alloc (.cells #[] 46)) := qbW qB qN
 have HF := qH (qA (hF.below hb1) (qA hl hb1))
 clear hF hl hb1
 have hq : ∀ (W : World), (binOp .eql 23 (.slice (some ⟨b, off, none⟩) n c) (.slice none 0 0)).run Tryz.prog W = .ok (.bool false) W := fun W => Lib.run_eql_slice_nil W _ _ _ n c 0 0 Tryz.underlying23
 go_enter Tryz.func40, Tryz.ntmps40
 go_wp2_with (first | (at_builtin; refine qgf (l := []) (n := 0) rfl _ _ rfl HF.out.2.2.size (qgv w 46 2 rfl qN) HF.out.1 HF.out.2.1 hn0 rfl rfl (by omega) ?_; intro v' w' ho' hg') | fail)
 have HO := qH (qA ho' (Rws.old (qgv w 46 2 rfl (qaf w.heap.size)) hg' HF.out.2.2 qN HF.out.2.2.size))
 clear ho' hg'
 go_wp2_with fail
 go_ret
 exact ⟨v', rfl, by have := HO.out.1; rwa [qaK, qbn] at this, HO.out.2⟩
theorem qhb (ao : Option Addr) (b off n c : Nat) (vs : List Value) (w : World) (hl : vs.length = n) (hn0 : 0 < n) (hn : n ≤ 1000) (hF : VCells w ao b off vs) (hnn : ∀ u ∈ vs, qcv u ∧ u.oneCell' = true) :
  Calls Tryz.prog 38 #[.slice ao n c] w fun e w' => ∃ v, e = .returned v ∧ Rws w' w.heap.size 23 1 v n vs ∧ Below w.heap.size w w' := by
 have ha := hF.addr (by omega)
 subst ha
 have hb1 : Below w.heap.size w (w.alloc (.cells #[] 23)) := qbW qB qN
 have HF := qH (qA (hF.below hb1) (qA hl hb1))
 have HN := qH hnn
 clear hF hl hb1 hnn
 have hq : ∀ (W : World), (binOp .eql 22 (.slice (some ⟨b, off, none⟩) n c) (.slice none 0 0)).run Tryz.prog W = .ok (.bool false) W := fun W => Lib.run_eql_slice_nil W _ _ _ n c 0 0 Tryz.underlying22
 go_enter Tryz.func38, Tryz.ntmps38
 go_wp2_with (first | (at_builtin; refine qg5 (vs := []) (n := 0) rfl _ _ rfl HF.out.2.2.size (qgv w 23 1 rfl qN) HF.out.1 HN.out HF.out.2.1 hn0 rfl rfl (by omega) ?_; intro v' w' ho' hg') | fail)
 have HO := qH (qA ho' (Rws.old (qgv w 23 1 rfl (qaf w.heap.size)) hg' HF.out.2.2 qN HF.out.2.2.size))
 clear ho' hg'
 go_wp2_with fail
 go_ret
 exact ⟨v', rfl, by have := HO.out.1; rwa [qaK, qbn] at this, HO.out.2⟩
end Go.Proofs.YtfminfgabiipjaaGreatDoor
