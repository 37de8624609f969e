/- Rk, part 43: Wk0 Wz Gs Rev Tim -/
import Derived.Deep.RegionHeld3
import Derived.Test.YtfminfgabiipjaaGreatDoorRk0
import Derived.Test.YtfminfgabiipjaaGreatDoorRk20
import Derived.Test.YtfminfgabiipjaaGreatDoorRk29
import Derived.Test.YtfminfgabiipjaaGreatDoorRk42
section
namespace Go.Proofs.YtfminfgabiipjaaGreatDoor
open Go.RowKit
theorem tabshort_lit {R n : Nat} {f : Nat → Nat → Rat} (h : ∀ i, i < R → ∀ j, j < n → (f i j).num.natAbs ≤ 1000 ∧ (f i j).den ≤ 1000) : ∀ i, i < R → AllShort n (f i) := fun i hi => allshort_lit (h i hi)
theorem rank_steps {n k : Nat} {A : Nat → Nat → Rat} (σ : Nat → Nat) (hσ : ∀ s, s < k → σ s < n ∧ A s (σ s) ≠ 0 ∧ ∀ i, i < k → s < i → A i (σ s) = 0) : RankIs k n A k :=
 RankIs.steps qN σ (fun s hs => ⟨(hσ s hs).1, (hσ s hs).2.1, fun i h1 h2 => (hσ s hs).2.2 i h2 h1⟩) (fun i h1 h2 => absurd h1 (by omega))
theorem SolveR.sing {n : Nat} {f : Nat → Nat → Rat} {b : Nat → Rat} {e : Ending} {w' : World} (h : SolveR n f b e w') (hs : Sing n f) : e = .returned (.tuple #[.slice none 0 0, .int .i64 7]) := by
 rcases h with ⟨_, h⟩ | ⟨h, _⟩
 ·exact h
 ·exact absurd hs h
theorem LeastR.sing {R n : Nat} {f : Nat → Nat → Rat} {b v : Nat → Rat} {e : Ending} {w' : World} (h : LeastR R n f b v e w') (hs : Sing n (normR R n f b v)) : e = .returned (.tuple #[.slice none 0 0, .int .i64 7]) := by
 rcases h with ⟨_, h⟩ | ⟨h, _⟩
 ·exact h
 ·exact absurd hs h
theorem solve_arg {R n m : Nat} {f : Nat → Nat → Rat} {b : Nat → Rat} {ao : Option Addr} {g c : Nat} {ao2 : Option Addr} {g2 c2 : Nat} {w : World} (h1 : 1 ≤ R) (h2 : R ≤ 40) (h3 : 1 ≤ n) (h4 : n ≤ 10) (hm : m ≤ 1000) (hf : ∀ i, i < R → AllShort n (f i)) (hb : AllShort m b) (hne : ¬ (m = R ∧ R = n)) (hT : TCells w ao g 0 (ttab R n f)) (hF : FCells w ao2 g2 0 (told m b)) (hP : HasT w) :
  Calls Tryz.prog 18 #[.slice ao R c, .slice ao2 m c2] w fun e w' => e = .returned (.tuple #[.slice none 0 0, .int .i64 2]) ∧ Below w.heap.size w w' := by
 refine (solve_call ao g 0 R c _ ao2 g2 0 m c2 _ w (ttab_len _ _ _) (by omega) (ttab_lens (by omega)) hT (told_len _ _) (by omega) hF hP).mono ?_
 rintro e w' ⟨h, hb'⟩
 refine ⟨?_, hb'⟩
 rcases h with h | h | h | h
 ·exact absurd (ttab_ok h1 h2 h3 h4 hf) h.1
 ·exact absurd (fall_told hb) h.2.1
 ·exact h.2.2.2
 ·exact absurd ⟨by have := h.2.2.1; rwa [told_len, ttab_len] at this, by have := h.2.2.2.1; rwa [ttab_len, ttab_wid h1] at this⟩ hne
theorem meas_neg {R n : Nat} {f : Nat → Nat → Rat} {b v x : Nat → Rat} {ao : Option Addr} {g c : Nat} {ao2 : Option Addr} {g2 c2 : Nat} {ao3 : Option Addr} {g3 c3 : Nat} {ao4 : Option Addr} {g4 c4 : Nat} {w : World} (h1 : 1 ≤ R) (h2 : R ≤ 40) (h3 : 1 ≤ n) (h4 : n ≤ 10) (hf : ∀ i, i < R → AllShort n (f i)) (hb : AllShort R b) (hv : AllShort R v) (hx : AllShort n x) (hv0 : ∃ i, i < R ∧ (v i).num < 0) (hT : TCells w ao g 0 (ttab R n f)) (hF : FCells w ao2 g2 0 (told R b)) (hF3 : FCells w ao3 g3 0 (told R v)) (hF4 : FCells w ao4 g4 0 (told n x)) (hP : HasT w) :
  Calls Tryz.prog 24 #[.slice ao R c, .slice ao2 R c2, .slice ao3 R c3, .slice ao4 n c4] w fun e w' => e = .returned (.tuple #[.agg #[.string ⟨#[]⟩, .string ⟨#[]⟩], .int .i64 2]) ∧ Below w.heap.size w w' := by
 have hneg : Neg (told R v) := by
  obtain ⟨i, hi, hlt⟩ := hv0
  refine ⟨i, by rw [told_len]; exact hi, ?_⟩
  rw [told_at hi, show (ftxt (v i)).1.data.toList = itxt (v i).num from rfl, ival_itxt]; exact hlt
 refine (measure_call ao g 0 R c _ ao2 g2 0 R c2 _ ao3 g3 0 R c3 _ ao4 g4 0 n c4 _ w (ttab_len _ _ _) (by omega) (ttab_lens (by omega)) hT (told_len _ _) (by omega) hF (told_len _ _) (by omega) hF3 (told_len _ _) (by omega) hF4 hP).mono ?_
 rintro e w' ⟨h, hb'⟩
 refine ⟨?_, hb'⟩
 rcases h with h | h | h | h
 ·exact absurd (ttab_ok h1 h2 h3 h4 hf) h.1
 ·exact absurd ⟨fall_told hb, fall_told hv, fall_told hx⟩ h.2.1
 ·exact h.2.2.2.2.2
 ·exact absurd hneg h.2.2.2.2.2.2.2.1
theorem frac_at0 {W : World} {ao : Option Addr} {g n : Nat} {x : Nat → Rat} {x1 x2 : ByteArray} (hf : FCells W ao g 0 (told n x)) (hn : 0 < n) (hq : ftxt (x 0) = (x1, x2)) : W.cell? ⟨g, 0, none⟩ = some (.string x1) ∧ W.cell? ⟨g, 1, none⟩ = some (.string x2) := by
 obtain ⟨h1, h2⟩ := hf.cell 0 (by rw [told_len]; exact hn)
 rw [told_at hn, hq] at h1 h2
 exact ⟨h1, h2⟩
theorem check_bad {ao : Option Addr} {g R c : Nat} {t : Tbl} {w : World} (hR : t.length = R) (hl : R ≤ 1000) (hw : ∀ k, k < R → (t.getD k []).length ≤ 1000) (hT : TCells w ao g 0 t) (hn : ¬ TOk t) :
  Calls Tryz.prog 12 #[.slice ao R c] w fun e w' => e = .returned (.int .i64 60) ∧ Below w.heap.size w w' := by
 refine (check_any ao g 0 R c t w hR (by omega) (fun k hk => Nat.le_trans (hw k hk) (by decide)) hT).mono ?_
 rintro e w' ⟨c, rfl, h, hb⟩
 rcases h with h | h
 ·first | exact absurd h.2 hn | exact absurd h.1 hn
 ·exact ⟨by rw [h.1], hb⟩
theorem q_1 (W : World) :
  Calls Tryz.prog 30 #[.slice (some ⟨W.heap.size, 0, none⟩) 1 1] (W.alloc (.cells #[.string ⟨#[49]⟩] 9)) fun e w' => ∃ (ao : Option Addr) (g c : Nat), e = .returned (.slice ao 1 c) ∧ FCells w' ao g 0 (told 1 (fv [(1 : Rat)])) ∧ Below W.heap.size W w' :=
 q_lit W [⟨#[49]⟩] [(1 : Rat)] 1 rfl rfl (by decide) (by simp only [List.map_cons, List.map_nil, ft_1]; decide +kernel) (by decide)
theorem q_2 (W : World) :
  Calls Tryz.prog 30 #[.slice (some ⟨W.heap.size, 0, none⟩) 1 1] (W.alloc (.cells #[.string ⟨#[50]⟩] 9)) fun e w' => ∃ (ao : Option Addr) (g c : Nat), e = .returned (.slice ao 1 c) ∧ FCells w' ao g 0 (told 1 (fv [(2 : Rat)])) ∧ Below W.heap.size W w' :=
 q_lit W [⟨#[50]⟩] [(2 : Rat)] 1 rfl rfl (by decide) (by simp only [List.map_cons, List.map_nil, ft_2]; decide +kernel) (by decide)
theorem q_2_1 (W : World) :
  Calls Tryz.prog 30 #[.slice (some ⟨W.heap.size, 0, none⟩) 2 2] (W.alloc (.cells #[.string ⟨#[50]⟩, .string ⟨#[49]⟩] 9)) fun e w' => ∃ (ao : Option Addr) (g c : Nat), e = .returned (.slice ao 2 c) ∧ FCells w' ao g 0 (told 2 (fv [(2 : Rat), 1])) ∧ Below W.heap.size W w' :=
 q_lit W [⟨#[50]⟩, ⟨#[49]⟩] [(2 : Rat), 1] 2 rfl rfl (by decide) (by simp only [List.map_cons, List.map_nil, ft_1, ft_2]; decide +kernel) (by decide)
theorem q_1_3 (W : World) :
  Calls Tryz.prog 30 #[.slice (some ⟨W.heap.size, 0, none⟩) 2 2] (W.alloc (.cells #[.string ⟨#[49]⟩, .string ⟨#[51]⟩] 9)) fun e w' => ∃ (ao : Option Addr) (g c : Nat), e = .returned (.slice ao 2 c) ∧ FCells w' ao g 0 (told 2 (fv [(1 : Rat), 3])) ∧ Below W.heap.size W w' :=
 q_lit W [⟨#[49]⟩, ⟨#[51]⟩] [(1 : Rat), 3] 2 rfl rfl (by decide) (by simp only [List.map_cons, List.map_nil, ft_1, ft_3]; decide +kernel) (by decide)
theorem q_3_5 (W : World) :
  Calls Tryz.prog 30 #[.slice (some ⟨W.heap.size, 0, none⟩) 2 2] (W.alloc (.cells #[.string ⟨#[51]⟩, .string ⟨#[53]⟩] 9)) fun e w' => ∃ (ao : Option Addr) (g c : Nat), e = .returned (.slice ao 2 c) ∧ FCells w' ao g 0 (told 2 (fv [(3 : Rat), 5])) ∧ Below W.heap.size W w' :=
 q_lit W [⟨#[51]⟩, ⟨#[53]⟩] [(3 : Rat), 5] 2 rfl rfl (by decide) (by simp only [List.map_cons, List.map_nil, ft_3, ft_5]; decide +kernel) (by decide)
theorem q_1_2 (W : World) :
  Calls Tryz.prog 30 #[.slice (some ⟨W.heap.size, 0, none⟩) 2 2] (W.alloc (.cells #[.string ⟨#[49]⟩, .string ⟨#[50]⟩] 9)) fun e w' => ∃ (ao : Option Addr) (g c : Nat), e = .returned (.slice ao 2 c) ∧ FCells w' ao g 0 (told 2 (fv [(1 : Rat), 2])) ∧ Below W.heap.size W w' :=
 q_lit W [⟨#[49]⟩, ⟨#[50]⟩] [(1 : Rat), 2] 2 rfl rfl (by decide) (by simp only [List.map_cons, List.map_nil, ft_1, ft_2]; decide +kernel) (by decide)
theorem q_2_4 (W : World) :
  Calls Tryz.prog 30 #[.slice (some ⟨W.heap.size, 0, none⟩) 2 2] (W.alloc (.cells #[.string ⟨#[50]⟩, .string ⟨#[52]⟩] 9)) fun e w' => ∃ (ao : Option Addr) (g c : Nat), e = .returned (.slice ao 2 c) ∧ FCells w' ao g 0 (told 2 (fv [(2 : Rat), 4])) ∧ Below W.heap.size W w' :=
 q_lit W [⟨#[50]⟩, ⟨#[52]⟩] [(2 : Rat), 4] 2 rfl rfl (by decide) (by simp only [List.map_cons, List.map_nil, ft_2, ft_4]; decide +kernel) (by decide)
theorem q_0 (W : World) :
  Calls Tryz.prog 30 #[.slice (some ⟨W.heap.size, 0, none⟩) 1 1] (W.alloc (.cells #[.string ⟨#[48]⟩] 9)) fun e w' => ∃ (ao : Option Addr) (g c : Nat), e = .returned (.slice ao 1 c) ∧ FCells w' ao g 0 (told 1 (fv [(0 : Rat)])) ∧ Below W.heap.size W w' :=
 q_lit W [⟨#[48]⟩] [(0 : Rat)] 1 rfl rfl (by decide) (by simp only [List.map_cons, List.map_nil, ft_0]; decide +kernel) (by decide)
theorem q_1_0_1 (W : World) :
  Calls Tryz.prog 30 #[.slice (some ⟨W.heap.size, 0, none⟩) 3 3] (W.alloc (.cells #[.string ⟨#[49]⟩, .string ⟨#[48]⟩, .string ⟨#[49]⟩] 9)) fun e w' => ∃ (ao : Option Addr) (g c : Nat), e = .returned (.slice ao 3 c) ∧ FCells w' ao g 0 (told 3 (fv [(1 : Rat), 0, 1])) ∧ Below W.heap.size W w' :=
 q_lit W [⟨#[49]⟩, ⟨#[48]⟩, ⟨#[49]⟩] [(1 : Rat), 0, 1] 3 rfl rfl (by decide) (by simp only [List.map_cons, List.map_nil, ft_0, ft_1]; decide +kernel) (by decide)
theorem q_0_1_1 (W : World) :
  Calls Tryz.prog 30 #[.slice (some ⟨W.heap.size, 0, none⟩) 3 3] (W.alloc (.cells #[.string ⟨#[48]⟩, .string ⟨#[49]⟩, .string ⟨#[49]⟩] 9)) fun e w' => ∃ (ao : Option Addr) (g c : Nat), e = .returned (.slice ao 3 c) ∧ FCells w' ao g 0 (told 3 (fv [(0 : Rat), 1, 1])) ∧ Below W.heap.size W w' :=
 q_lit W [⟨#[48]⟩, ⟨#[49]⟩, ⟨#[49]⟩] [(0 : Rat), 1, 1] 3 rfl rfl (by decide) (by simp only [List.map_cons, List.map_nil, ft_0, ft_1]; decide +kernel) (by decide)
theorem q_3_4 (W : World) :
  Calls Tryz.prog 30 #[.slice (some ⟨W.heap.size, 0, none⟩) 2 2] (W.alloc (.cells #[.string ⟨#[51]⟩, .string ⟨#[52]⟩] 9)) fun e w' => ∃ (ao : Option Addr) (g c : Nat), e = .returned (.slice ao 2 c) ∧ FCells w' ao g 0 (told 2 (fv [(3 : Rat), 4])) ∧ Below W.heap.size W w' :=
 q_lit W [⟨#[51]⟩, ⟨#[52]⟩] [(3 : Rat), 4] 2 rfl rfl (by decide) (by simp only [List.map_cons, List.map_nil, ft_3, ft_4]; decide +kernel) (by decide)
theorem q_1_1 (W : World) :
  Calls Tryz.prog 30 #[.slice (some ⟨W.heap.size, 0, none⟩) 2 2] (W.alloc (.cells #[.string ⟨#[49]⟩, .string ⟨#[49]⟩] 9)) fun e w' => ∃ (ao : Option Addr) (g c : Nat), e = .returned (.slice ao 2 c) ∧ FCells w' ao g 0 (told 2 (fv [(1 : Rat), 1])) ∧ Below W.heap.size W w' :=
 q_lit W [⟨#[49]⟩, ⟨#[49]⟩] [(1 : Rat), 1] 2 rfl rfl (by decide) (by simp only [List.map_cons, List.map_nil, ft_1]; decide +kernel) (by decide)
theorem q_0_3 (W : World) :
  Calls Tryz.prog 30 #[.slice (some ⟨W.heap.size, 0, none⟩) 2 2] (W.alloc (.cells #[.string ⟨#[48]⟩, .string ⟨#[51]⟩] 9)) fun e w' => ∃ (ao : Option Addr) (g c : Nat), e = .returned (.slice ao 2 c) ∧ FCells w' ao g 0 (told 2 (fv [(0 : Rat), 3])) ∧ Below W.heap.size W w' :=
 q_lit W [⟨#[48]⟩, ⟨#[51]⟩] [(0 : Rat), 3] 2 rfl rfl (by decide) (by simp only [List.map_cons, List.map_nil, ft_0, ft_3]; decide +kernel) (by decide)
theorem q_1_1o2 (W : World) :
  Calls Tryz.prog 30 #[.slice (some ⟨W.heap.size, 0, none⟩) 2 2] (W.alloc (.cells #[.string ⟨#[49]⟩, .string ⟨#[49, 47, 50]⟩] 9)) fun e w' => ∃ (ao : Option Addr) (g c : Nat), e = .returned (.slice ao 2 c) ∧ FCells w' ao g 0 (told 2 (fv [(1 : Rat), 1 / 2])) ∧ Below W.heap.size W w' :=
 q_lit W [⟨#[49]⟩, ⟨#[49, 47, 50]⟩] [(1 : Rat), 1 / 2] 2 rfl rfl (by decide) (by simp only [List.map_cons, List.map_nil, ft_1, ft_12]; decide +kernel) (by decide)
theorem q_m1 (W : World) :
  Calls Tryz.prog 30 #[.slice (some ⟨W.heap.size, 0, none⟩) 1 1] (W.alloc (.cells #[.string ⟨#[45, 49]⟩] 9)) fun e w' => ∃ (ao : Option Addr) (g c : Nat), e = .returned (.slice ao 1 c) ∧ FCells w' ao g 0 (told 1 (fv [(-1 : Rat)])) ∧ Below W.heap.size W w' :=
 q_lit W [⟨#[45, 49]⟩] [(-1 : Rat)] 1 rfl rfl (by decide) (by simp only [List.map_cons, List.map_nil, ft_m1]; decide +kernel) (by decide)
theorem ex1 {ao : Option Addr} {g c : Nat} {ao2 : Option Addr} {g2 c2 : Nat} {w : World} (hT : TCells w ao g 0 (ttab 2 2 (fm [[(2 : Rat), 1], [(1 : Rat), 3]]))) (hF : FCells w ao2 g2 0 (told 2 (fv [(3 : Rat), 5]))) (hP : HasT w) :
  Calls Tryz.prog 18 #[.slice ao 2 c, .slice ao2 2 c2] w fun e w' => (∃ g, e = .returned (.tuple #[.slice (some ⟨g, 0, none⟩) 2 2, .int .i64 0]) ∧ FCells w' (some ⟨g, 0, none⟩) g 0 (told 2 (fv [(4 / 5 : Rat), 7 / 5]))) ∧ Below w.heap.size w w' :=
 (solve_tab (by decide) (by decide) (tabshort_lit (by decide +kernel)) (allshort_lit (by decide +kernel)) hT hF hP).mono fun _ _ h => ⟨h.1.only (nsing_inv (fm [[(3 / 5 : Rat), -1 / 5], [(-1 / 5 : Rat), 2 / 5]]) (by decide +kernel)) (show ∀ i, i < 2 → _ from (by decide +kernel)) (allshort_lit (by decide +kernel)), h.2⟩
theorem ex2 {ao : Option Addr} {g c : Nat} {ao2 : Option Addr} {g2 c2 : Nat} {w : World} (hT : TCells w ao g 0 (ttab 2 2 (fm [[(1 : Rat), 2], [(2 : Rat), 4]]))) (hF : FCells w ao2 g2 0 (told 2 (fv [(1 : Rat), 2]))) (hP : HasT w) :
  Calls Tryz.prog 18 #[.slice ao 2 c, .slice ao2 2 c2] w fun e w' => e = .returned (.tuple #[.slice none 0 0, .int .i64 7]) ∧ Below w.heap.size w w' :=
 (solve_tab (by decide) (by decide) (tabshort_lit (by decide +kernel)) (allshort_lit (by decide +kernel)) hT hF hP).mono fun _ _ h => ⟨h.1.sing ⟨(fv [(2 : Rat), -1]), ⟨0, by decide, (by decide +kernel)⟩, show ∀ i, i < 2 → _ from (by decide +kernel)⟩, h.2⟩
theorem ex3 {ao : Option Addr} {g c : Nat} {ao2 : Option Addr} {g2 c2 : Nat} {w : World} (hT : TCells w ao g 0 (ttab 1 2 (fm [[(1 : Rat), 2]]))) (hF : FCells w ao2 g2 0 (told 1 (fv [(1 : Rat)]))) (hP : HasT w) :
  Calls Tryz.prog 18 #[.slice ao 1 c, .slice ao2 1 c2] w fun e w' => e = .returned (.tuple #[.slice none 0 0, .int .i64 2]) ∧ Below w.heap.size w w' :=
 solve_arg (by decide) (by decide) (by decide) (by decide) (by decide) (tabshort_lit (by decide +kernel)) (allshort_lit (by decide +kernel)) (by decide) hT hF hP
theorem ex4_r : RankIs 2 2 (fm [[(1 : Rat), 2], [(2 : Rat), 4]]) 1 :=
 rank_of (k := 1) (fm [[(1 : Rat), 2]]) (fm [[(1 : Rat)], [(2 : Rat)]]) (fm [[(1 : Rat), 0]]) (rank_steps (fun s => [0].getD s 0) (by decide +kernel)) (by decide +kernel) (by decide +kernel)
theorem ex4 {ao : Option Addr} {g c : Nat} {w : World} (hT : TCells w ao g 0 (ttab 2 2 (fm [[(1 : Rat), 2], [(2 : Rat), 4]]))) :
  Calls Tryz.prog 16 #[.slice ao 2 c] w fun e w' => e = .returned (.tuple #[.int .i64 1, .int .i64 0]) ∧ Below w.heap.size w w' := by
 refine (rank_tab (by decide) (by decide) (by decide) (by decide) (tabshort_lit (by decide +kernel)) hT).mono ?_
 rintro e w' ⟨⟨k, hk, rfl⟩, hb⟩
 obtain rfl : k = 1 := hk.uniq ex4_r (SpanEq.refl _ _ _)
 exact ⟨rfl, hb⟩
theorem ex5_r : RankIs 1 1 (fm [[(0 : Rat)]]) 0 :=
 rank_of (k := 0) (fun _ _ => 0) (fun _ _ => 0) (fun _ _ => 0) (rank_steps (fun _ => 0) (by decide +kernel)) (by decide +kernel) (by decide +kernel)
theorem ex5 {ao : Option Addr} {g c : Nat} {w : World} (hT : TCells w ao g 0 (ttab 1 1 (fm [[(0 : Rat)]]))) :
  Calls Tryz.prog 16 #[.slice ao 1 c] w fun e w' => e = .returned (.tuple #[.int .i64 0, .int .i64 0]) ∧ Below w.heap.size w w' := by
 refine (rank_tab (by decide) (by decide) (by decide) (by decide) (tabshort_lit (by decide +kernel)) hT).mono ?_
 rintro e w' ⟨⟨k, hk, rfl⟩, hb⟩
 obtain rfl : k = 0 := hk.uniq ex5_r (SpanEq.refl _ _ _)
 exact ⟨rfl, hb⟩
theorem ex6_r : RankIs 2 3 (fm [[(1 : Rat), 0, 1], [(0 : Rat), 1, 1]]) 2 :=
 rank_of (k := 2) (fm [[(1 : Rat), 0, 1], [(0 : Rat), 1, 1]]) (fm [[(1 : Rat), 0], [(0 : Rat), 1]]) (fm [[(1 : Rat), 0], [(0 : Rat), 1]]) (rank_steps (fun s => [0, 1].getD s 0) (by decide +kernel)) (by decide +kernel) (by decide +kernel)
theorem ex6 {ao : Option Addr} {g c : Nat} {w : World} (hT : TCells w ao g 0 (ttab 2 3 (fm [[(1 : Rat), 0, 1], [(0 : Rat), 1, 1]]))) :
  Calls Tryz.prog 16 #[.slice ao 2 c] w fun e w' => e = .returned (.tuple #[.int .i64 2, .int .i64 0]) ∧ Below w.heap.size w w' := by
 refine (rank_tab (by decide) (by decide) (by decide) (by decide) (tabshort_lit (by decide +kernel)) hT).mono ?_
 rintro e w' ⟨⟨k, hk, rfl⟩, hb⟩
 obtain rfl : k = 2 := hk.uniq ex6_r (SpanEq.refl _ _ _)
 exact ⟨rfl, hb⟩
theorem ex7 {ao : Option Addr} {g c : Nat} {ao2 : Option Addr} {g2 c2 : Nat} {ao3 : Option Addr} {g3 c3 : Nat} {w : World} (hT : TCells w ao g 0 (ttab 2 1 (fm [[(1 : Rat)], [(2 : Rat)]]))) (hF : FCells w ao2 g2 0 (told 2 (fv [(3 : Rat), 4]))) (hF3 : FCells w ao3 g3 0 (told 2 (fv [(1 : Rat), 1]))) (hP : HasT w) :
  Calls Tryz.prog 22 #[.slice ao 2 c, .slice ao2 2 c2, .slice ao3 2 c3] w fun e w' => (∃ g, e = .returned (.tuple #[.slice (some ⟨g, 0, none⟩) 1 1, .int .i64 0]) ∧ FCells w' (some ⟨g, 0, none⟩) g 0 (told 1 (fv [(11 / 5 : Rat)]))) ∧ Below w.heap.size w w' :=
 (least_tab (by decide) (by decide) (by decide) (by decide) (tabshort_lit (by decide +kernel)) (allshort_lit (by decide +kernel)) (allshort_lit (by decide +kernel)) (by decide +kernel) hT hF hF3 hP).mono fun _ _ h => ⟨h.1.only (nsing_inv (fm [[(1 / 5 : Rat)]]) (by decide +kernel)) (show ∀ i, i < 1 → _ from (by decide +kernel)) (allshort_lit (by decide +kernel)), h.2⟩
theorem ex8 {ao : Option Addr} {g c : Nat} {ao2 : Option Addr} {g2 c2 : Nat} {ao3 : Option Addr} {g3 c3 : Nat} {w : World} (hT : TCells w ao g 0 (ttab 2 1 (fm [[(1 : Rat)], [(1 : Rat)]]))) (hF : FCells w ao2 g2 0 (told 2 (fv [(0 : Rat), 3]))) (hF3 : FCells w ao3 g3 0 (told 2 (fv [(2 : Rat), 1]))) (hP : HasT w) :
  Calls Tryz.prog 22 #[.slice ao 2 c, .slice ao2 2 c2, .slice ao3 2 c3] w fun e w' => (∃ g, e = .returned (.tuple #[.slice (some ⟨g, 0, none⟩) 1 1, .int .i64 0]) ∧ FCells w' (some ⟨g, 0, none⟩) g 0 (told 1 (fv [(1 : Rat)]))) ∧ Below w.heap.size w w' :=
 (least_tab (by decide) (by decide) (by decide) (by decide) (tabshort_lit (by decide +kernel)) (allshort_lit (by decide +kernel)) (allshort_lit (by decide +kernel)) (by decide +kernel) hT hF hF3 hP).mono fun _ _ h => ⟨h.1.only (nsing_inv (fm [[(1 / 3 : Rat)]]) (by decide +kernel)) (show ∀ i, i < 1 → _ from (by decide +kernel)) (allshort_lit (by decide +kernel)), h.2⟩
theorem ex9 {ao : Option Addr} {g c : Nat} {ao2 : Option Addr} {g2 c2 : Nat} {ao3 : Option Addr} {g3 c3 : Nat} {w : World} (hT : TCells w ao g 0 (ttab 1 2 (fm [[(1 : Rat), 1]]))) (hF : FCells w ao2 g2 0 (told 1 (fv [(1 : Rat)]))) (hF3 : FCells w ao3 g3 0 (told 1 (fv [(1 : Rat)]))) (hP : HasT w) :
  Calls Tryz.prog 22 #[.slice ao 1 c, .slice ao2 1 c2, .slice ao3 1 c3] w fun e w' => e = .returned (.tuple #[.slice none 0 0, .int .i64 7]) ∧ Below w.heap.size w w' :=
 (least_tab (by decide) (by decide) (by decide) (by decide) (tabshort_lit (by decide +kernel)) (allshort_lit (by decide +kernel)) (allshort_lit (by decide +kernel)) (by decide +kernel) hT hF hF3 hP).mono fun _ _ h => ⟨h.1.sing ⟨(fv [(1 : Rat), -1]), ⟨0, by decide, (by decide +kernel)⟩, show ∀ i, i < 2 → _ from (by decide +kernel)⟩, h.2⟩
theorem ex10 {ao : Option Addr} {g c : Nat} {ao2 : Option Addr} {g2 c2 : Nat} {ao3 : Option Addr} {g3 c3 : Nat} {ao4 : Option Addr} {g4 c4 : Nat} {w : World} (hT : TCells w ao g 0 (ttab 2 1 (fm [[(1 : Rat)], [(2 : Rat)]]))) (hF : FCells w ao2 g2 0 (told 2 (fv [(3 : Rat), 4]))) (hF3 : FCells w ao3 g3 0 (told 2 (fv [(1 : Rat), 1 / 2]))) (hF4 : FCells w ao4 g4 0 (told 1 (fv [(1 : Rat)]))) (hP : HasT w) :
  Calls Tryz.prog 24 #[.slice ao 2 c, .slice ao2 2 c2, .slice ao3 2 c3, .slice ao4 1 c4] w fun e w' => e = .returned (.tuple #[.agg #[.string ⟨#[54]⟩, .string ⟨#[49]⟩], .int .i64 0]) ∧ Below w.heap.size w w' := by
 refine (meas_tab (by decide) (by decide) (by decide) (by decide) (tabshort_lit (by decide +kernel)) (allshort_lit (by decide +kernel)) (allshort_lit (by decide +kernel)) (allshort_lit (by decide +kernel)) (by decide +kernel) hT hF hF3 hF4 hP).mono ?_
 rintro e w' ⟨h, hb⟩
 rw [show msR 2 1 (fm [[(1 : Rat)], [(2 : Rat)]]) (fv [(3 : Rat), 4]) (fv [(1 : Rat), 1 / 2]) (fv [(1 : Rat)]) = 6 by decide +kernel] at h
 rcases h with ⟨_, rfl⟩ | ⟨h, _⟩
 ·exact ⟨by rw [fstr_txt, ft_6], hb⟩
 ·exact absurd (short_small (q := 6) (by decide +kernel)) h
theorem ex11 {ao : Option Addr} {g c : Nat} {ao2 : Option Addr} {g2 c2 : Nat} {ao3 : Option Addr} {g3 c3 : Nat} {ao4 : Option Addr} {g4 c4 : Nat} {w : World} (hT : TCells w ao g 0 (ttab 1 1 (fm [[(1 : Rat)]]))) (hF : FCells w ao2 g2 0 (told 1 (fv [(0 : Rat)]))) (hF3 : FCells w ao3 g3 0 (told 1 (fv [(-1 : Rat)]))) (hF4 : FCells w ao4 g4 0 (told 1 (fv [(1 : Rat)]))) (hP : HasT w) :
  Calls Tryz.prog 24 #[.slice ao 1 c, .slice ao2 1 c2, .slice ao3 1 c3, .slice ao4 1 c4] w fun e w' => e = .returned (.tuple #[.agg #[.string ⟨#[]⟩, .string ⟨#[]⟩], .int .i64 2]) ∧ Below w.heap.size w w' :=
 meas_neg (by decide) (by decide) (by decide) (by decide) (tabshort_lit (by decide +kernel)) (allshort_lit (by decide +kernel)) (allshort_lit (by decide +kernel)) (allshort_lit (by decide +kernel)) ⟨0, by decide, (by decide +kernel)⟩ hT hF hF3 hF4 hP
theorem ex12 (w : World) : Calls Tryz.prog 12 #[.slice none 0 0] w fun e w' => e = .returned (.int .i64 60) ∧ Below w.heap.size w w' :=
 check_bad (ao := none) (g := 0) (c := 0) (t := []) rfl (by decide) (fun k hk => absurd hk (by omega)) ⟨fun h => absurd h (by decide), fun k hk => absurd hk (by simp)⟩ (fun h => absurd h.r1 (by decide))
theorem ex13 {ao : Option Addr} {g c : Nat} {w : World} (hT : TCells w ao g 0 [told 1 (fv [(1 : Rat)]), told 2 (fv [(1 : Rat), 2])]) :
  Calls Tryz.prog 12 #[.slice ao 2 c] w fun e w' => e = .returned (.int .i64 60) ∧ Below w.heap.size w w' :=
 check_bad rfl (by decide) (fun k hk => by
  rcases (show k = 0 ∨ k = 1 by omega) with rfl | rfl
  ·exact (by decide : 1 ≤ 1000)
  ·exact (by decide : 2 ≤ 1000)) hT (fun h => absurd (h.rows 1 (by decide)).1 (by decide))
end Go.Proofs.YtfminfgabiipjaaGreatDoor
end
section
namespace Go.Proofs.YtfminfgabiipjaaGreatDoor
open Go.RowKit
theorem sc1 (W : World) (s : ByteArray) {g : Nat} (hg : g = W.heap.size) : SCells (W.alloc (.cells #[.string s] 9)) g 0 [s] := by
 subst hg; exact SCells.row (L := [s]) (heap_alloc_new W _)
theorem sc2 (W : World) (s t : ByteArray) {g : Nat} (hg : g = W.heap.size) : SCells (W.alloc (.cells #[.string s, .string t] 9)) g 0 [s, t] := by
 subst hg; exact SCells.row (L := [s, t]) (heap_alloc_new W _)
theorem q_at (n : Nat) {w : World} {g : Nat} {L : List ByteArray} {l : List Rat} (hs : SCells w g 0 L) (hL : L.length = n) (hl : l.length = n) (hn : n ≤ 1000) (h : L.map qf = l.map ftxt) (hz : ∀ s ∈ L, s.size ≤ 65536) :
  Calls Tryz.prog 30 #[.slice (some ⟨g, 0, none⟩) n n] w fun e w' => ∃ (ao : Option Addr) (g c : Nat), e = .returned (.slice ao n c) ∧ FCells w' ao g 0 (told n (fv l)) ∧ Below w.heap.size w w' := by
 refine (q_any g n n L w hL hn hs (small_all hz)).mono ?_
 rintro e w' ⟨ao, g, c, rfl, hf, _, hb⟩
 rw [told_lit n hl h] at hf
 exact ⟨ao, g, c, rfl, hf, hb⟩
end Go.Proofs.YtfminfgabiipjaaGreatDoor
end
section
namespace Go.Proofs.YtfminfgabiipjaaGreatDoor
open Go.RowKit
def RowVals (W : World) (vs : List Value) (t : Tbl) : Prop := vs.length = t.length ∧ ∀ k, k < t.length → ∃ (ra : Option Addr) (rb ro rc : Nat), vs.getD k undef = .slice ra (t.getD k []).length rc ∧ FCells W ra rb ro (t.getD k [])
theorem RowVals.below {W W' : World} {vs : List Value} {t : Tbl} (h : RowVals W vs t) (hb : Below W.heap.size W W') : RowVals W' vs t :=
 ⟨h.1, fun k hk => by
  obtain ⟨ra, rb, ro, rc, h1, h2⟩ := h.2 k hk
  exact ⟨ra, rb, ro, rc, h1, h2.below hb⟩⟩
theorem TCells.vals {W : World} {ao : Option Addr} {b off : Nat} {t : Tbl} (h : TCells W ao b off t) : ∃ vs, RowVals W vs t ∧ VCells W ao b off vs := by
 refine ⟨(List.range t.length).map fun k => (W.cell? ⟨b, off + k, none⟩).getD undef, ⟨by rw [List.length_map, List.length_range], fun k hk => ?_⟩, ⟨fun h0 => h.addr (by rw [List.length_map, List.length_range] at h0; exact h0), fun k hk => ?_⟩⟩
 ·obtain ⟨ra, rb, ro, rc, h1, h2⟩ := h.row k hk
  refine ⟨ra, rb, ro, rc, ?_, h2⟩
  rw [List.getD_eq_getElem?_getD, List.getElem?_map, List.getElem?_range hk]
  show (W.cell? ⟨b, off + k, none⟩).getD undef = _
  rw [h1]; rfl
 ·rw [List.length_map, List.length_range] at hk
  obtain ⟨ra, rb, ro, rc, h1, h2⟩ := h.row k hk
  rw [List.getD_eq_getElem?_getD, List.getElem?_map, List.getElem?_range hk, h1]
  show _ = some ((W.cell? ⟨b, off + k, none⟩).getD undef)
  rw [h1]; rfl
theorem RowVals.tcells {W : World} {ao : Option Addr} {b off : Nat} {vs : List Value} {t : Tbl} (h : RowVals W vs t) (hv : VCells W ao b off vs) : TCells W ao b off t :=
 ⟨fun h0 => hv.addr (by rw [h.1]; exact h0), fun k hk => by
  obtain ⟨ra, rb, ro, rc, h1, h2⟩ := h.2 k hk
  exact ⟨ra, rb, ro, rc, by rw [← h1]; exact hv.cell k (by rw [h.1]; exact hk), h2⟩⟩
theorem RowVals.append {W : World} {vs vs2 : List Value} {t t2 : Tbl} (h : RowVals W vs t) (h2 : RowVals W vs2 t2) : RowVals W (vs ++ vs2) (t ++ t2) := by
 refine ⟨by rw [List.length_append, List.length_append, h.1, h2.1], fun k hk => ?_⟩
 rw [List.length_append] at hk
 by_cases e : k < t.length
 ·have e1 : (vs ++ vs2).getD k undef = vs.getD k undef := by rw [List.getD_eq_getElem?_getD, List.getElem?_append_left (by rw [h.1]; exact e), ← List.getD_eq_getElem?_getD]
  have e2 : (t ++ t2).getD k [] = t.getD k [] := by rw [List.getD_eq_getElem?_getD, List.getElem?_append_left e, ← List.getD_eq_getElem?_getD]
  rw [e1, e2]; exact h.2 k e
 ·have e1 : (vs ++ vs2).getD k undef = vs2.getD (k - t.length) undef := by rw [List.getD_eq_getElem?_getD, List.getElem?_append_right (by rw [h.1]; omega), h.1, ← List.getD_eq_getElem?_getD]
  have e2 : (t ++ t2).getD k [] = t2.getD (k - t.length) [] := by rw [List.getD_eq_getElem?_getD, List.getElem?_append_right (by omega), ← List.getD_eq_getElem?_getD]
  rw [e1, e2]; exact h2.2 _ (by omega)
theorem RowVals.one {W : World} {ra : Option Addr} {rb ro m rc : Nat} {l : List FT} (hl : l.length = m) (h : FCells W ra rb ro l) : RowVals W [.slice ra m rc] [l] :=
 ⟨rfl, fun k hk => by
  obtain rfl : k = 0 := by simp at hk; omega
  exact ⟨ra, rb, ro, rc, by rw [show ([l] : Tbl).getD 0 [] = l from rfl, hl]; rfl, h⟩⟩
theorem RowVals.not {W : World} {vs : List Value} {t : Tbl} (h : RowVals W vs t) : ∀ u ∈ vs, NotInt u ∧ u.oneCell' = true := fun u hu => by
 obtain ⟨k, hk, rfl⟩ := List.getElem_of_mem hu
 obtain ⟨ra, rb, ro, rc, h1, _⟩ := h.2 k (by rw [← h.1]; exact hk)
 rw [List.getD_eq_getElem?_getD, List.getElem?_eq_getElem hk] at h1
 have h2 : vs[k] = .slice ra (t.getD k []).length rc := h1
 rw [h2]
 exact ⟨slice_not _ _ _, rfl⟩
theorem frac_not : ∀ y ∈ (Value.agg #[.string ⟨#[]⟩, .string ⟨#[]⟩]).cells.toList, NotInt y := by
 intro y hy
 rcases List.mem_cons.1 (show y ∈ [Value.string ⟨#[]⟩, Value.string ⟨#[]⟩] from hy) with rfl | hy
 ·exact str_not _
 ·rw [List.mem_singleton.1 hy]; exact str_not _
theorem slc_not : ∀ y ∈ (Value.slice none 0 0).cells.toList, NotInt y := by
 intro y hy
 rw [List.mem_singleton.1 (show y ∈ [Value.slice none 0 0] from hy)]; exact slice_not _ _ _
theorem fflat_not (l : List FT) : ∀ u ∈ fflat l, NotInt u := fun u hu => by
 unfold fflat at hu
 obtain ⟨x, _, hx⟩ := List.mem_flatMap.1 hu
 rcases List.mem_cons.1 hx with rfl | hx
 ·exact str_not _
 ·rw [List.mem_singleton.1 hx]; exact str_not _
theorem wp_fracs {w : World} {o : Oper} {a : Act} {K : Act → World → Prop} {Q : Exit → Act → World → Prop} (s x : Operand)
  (ho : o.op = .call { callee := .builtin .append, args := #[s, x], argTypes := #[23, 23] }) {B : Nat} {v : Value} {n m c b off : Nat} {l l2 : List FT} {ad : Option Addr}
  (hBw : B ≤ w.heap.size) (hown : Rws w B 46 2 v n (fflat l)) (hF : FCells w ad b off l2) (hm : l2.length = m) (hm0 : 0 < m) (hs : a.eval s = v) (hx : a.eval x = .slice ad m c) (hn : n + m ≤ 1000000)
  (h : ∀ v' w', Rws w' B 46 2 v' (n + m) (fflat (l ++ l2)) → w.grownBy w' v.ownBlock → K (a.put o.dst v') w') : Oper.wp Tryz.prog o a w K Q := by
 obtain ⟨i0, hi, hz0, hz1, hz2⟩ := info_parts infoF
 have ha := hF.addr (by omega)
 subst ha
 refine wp_append_rws s x 23 ho B 46 i0 _ 2 32 Tryz.underlying23 hi hz0 hz1 hz2 rfl (by decide) frac_not v n (fflat l) hs hown ⟨b, off, none⟩ m c (fflat l2) hx (by rw [fflat_len, hm]) hF.src (fflat_one l2) (fflat_not l2) hm0 (by unfold maxLen; omega) (by omega) hBw ?_
 intro v' w' h1 h2 _
 refine h v' w' ?_ h2
 rw [fflat_app]; exact h1
theorem wp_rows {w : World} {o : Oper} {a : Act} {K : Act → World → Prop} {Q : Exit → Act → World → Prop} (s x : Operand)
  (ho : o.op = .call { callee := .builtin .append, args := #[s, x], argTypes := #[22, 22] }) {B : Nat} {v : Value} {n m c b off : Nat} {vs vs2 : List Value} {ad : Option Addr}
  (hBw : B ≤ w.heap.size) (hown : Rws w B 23 1 v n vs) (hF : VCells w ad b off vs2) (hnn : ∀ u ∈ vs2, NotInt u ∧ u.oneCell' = true) (hm : vs2.length = m) (hm0 : 0 < m) (hs : a.eval s = v) (hx : a.eval x = .slice ad m c) (hn : n + m ≤ 1000000)
  (h : ∀ v' w', Rws w' B 23 1 v' (n + m) (vs ++ vs2) → w.grownBy w' v.ownBlock → K (a.put o.dst v') w') : Oper.wp Tryz.prog o a w K Q := by
 obtain ⟨i0, hi, hz0, hz1, hz2⟩ := info_parts infoFs
 have ha := hF.addr (by omega)
 subst ha
 refine wp_append_rws s x 22 ho B 23 i0 _ 1 24 Tryz.underlying22 hi hz0 hz1 hz2 rfl (by decide) slc_not v n vs hs hown ⟨b, off, none⟩ m c vs2 hx (by rw [hm, Nat.mul_one]) ?c1 (fun u hu => (hnn u hu).2) (fun u hu => (hnn u hu).1) hm0 (by unfold maxLen; omega) (by omega) hBw ?_
 case c1 =>
  intro j u hj
  rw [Addr.add_mid]
  have hjl := (List.getElem?_eq_some_iff.1 hj).1
  rw [hF.cell j hjl, List.getD_eq_getElem?_getD, hj]; rfl
 intro v' w' h1 h2 _
 exact h v' w' h1 h2
section
variable {w : World} {ops : Array Oper} {rest : List Oper} {o : Oper} {a : Act} {K : Act → World → Prop} {Q : Exit → Act → World → Prop} {E : Prop}
theorem wpList_fracs (hgd : o.guard = none) (s x : Operand)
  (ho : o.op = .call { callee := .builtin .append, args := #[s, x], argTypes := #[23, 23] }) {B : Nat} {v : Value} {n m c b off : Nat} {l l2 : List FT} {ad : Option Addr}
  (hBw : B ≤ w.heap.size) (hown : Rws w B 46 2 v n (fflat l)) (hF : FCells w ad b off l2) (hm : l2.length = m) (hm0 : 0 < m) (hs : a.eval s = v) (hx : a.eval x = .slice ad m c) (hn : n + m ≤ 1000000)
  (h : ∀ v' w', Rws w' B 46 2 v' (n + m) (fflat (l ++ l2)) → w.grownBy w' v.ownBlock → wpList Tryz.prog ops Q rest (a.put o.dst v') w') : wpList Tryz.prog ops Q (o :: rest) a w :=
 wpList_plain hgd fun _ hK => wp_fracs s x ho hBw hown hF hm hm0 hs hx hn fun v' w' h1 h2 => hK _ _ (h v' w' h1 h2)
theorem wpList_rows (hgd : o.guard = none) (s x : Operand)
  (ho : o.op = .call { callee := .builtin .append, args := #[s, x], argTypes := #[22, 22] }) {B : Nat} {v : Value} {n m c b off : Nat} {vs vs2 : List Value} {ad : Option Addr}
  (hBw : B ≤ w.heap.size) (hown : Rws w B 23 1 v n vs) (hF : VCells w ad b off vs2) (hnn : ∀ u ∈ vs2, NotInt u ∧ u.oneCell' = true) (hm : vs2.length = m) (hm0 : 0 < m) (hs : a.eval s = v) (hx : a.eval x = .slice ad m c) (hn : n + m ≤ 1000000)
  (h : ∀ v' w', Rws w' B 23 1 v' (n + m) (vs ++ vs2) → w.grownBy w' v.ownBlock → wpList Tryz.prog ops Q rest (a.put o.dst v') w') : wpList Tryz.prog ops Q (o :: rest) a w :=
 wpList_plain hgd fun _ hK => wp_rows s x ho hBw hown hF hnn hm hm0 hs hx hn fun v' w' h1 h2 => hK _ _ (h v' w' h1 h2)
theorem step_rows (hgd : o.guard = none) (s x : Operand)
  (ho : o.op = .call { callee := .builtin .append, args := #[s, x], argTypes := #[22, 22] }) {B : Nat} {v : Value} {n m c b off : Nat} {vs vs2 : List Value} {ad : Option Addr}
  (hBw : B ≤ w.heap.size) (hown : Rws w B 23 1 v n vs) (hF : VCells w ad b off vs2) (hnn : ∀ u ∈ vs2, NotInt u ∧ u.oneCell' = true) (hm : vs2.length = m) (hm0 : 0 < m) (hs : a.eval s = v) (hx : a.eval x = .slice ad m c) (hn : n + m ≤ 1000000)
  (h : ∀ v' w', Rws w' B 23 1 v' (n + m) (vs ++ vs2) → w.grownBy w' v.ownBlock → K (a.put o.dst v') w') : if Region.wanted o (yielded ops a.tmps) = true then Oper.wp Tryz.prog o a w K Q else E := by
 rw [if_pos (by simp [Region.wanted, hgd])]
 exact wp_rows s x ho hBw hown hF hnn hm hm0 hs hx hn h
end
theorem rws_none (W : World) (e : TypeId) (size : Nat) {B g : Nat} (hg : g = W.heap.size) (hB : B ≤ g) : Rws (W.alloc (.cells #[] e)) B e size (.slice (some ⟨g, 0, none⟩) 0 0) 0 [] := by
 subst hg
 exact ⟨by simp, .inr ⟨W.heap.size, 0, #[], rfl, hB, heap_alloc_new W _, Nat.le_refl _, by unfold maxLen; omega, by simp, by simp, fun x hx => by simp at hx⟩⟩
set_option maxRecDepth 100000 in
set_option maxHeartbeats 1000000 in
theorem clone_list (ao : Option Addr) (b off n c : Nat) (l : List FT) (w : World) (hl : l.length = n) (hn0 : 0 < n) (hn : n ≤ 1000) (hF : FCells w ao b off l) :
  Calls Tryz.prog 40 #[.slice ao n c] w fun e w' => ∃ v, e = .returned v ∧ Rws w' w.heap.size 46 2 v n (fflat l) ∧ Below w.heap.size w w' := by
 have ha := hF.addr (by omega)
 subst ha
 have hb1 : Below w.heap.size w (w.alloc (.cells #[] 46)) := balloc qB qN
 have HF := qH (qA (hF.below hb1) (qA hl hb1))
 clear hF hl hb1
 have hq : ∀ (W : World), (binOp .eql 23 (.slice (some ⟨b, off, none⟩) n c) (.slice none 0 0)).run Tryz.prog W = .ok (.bool false) W := fun W => Lib.run_eql_slice_nil W _ _ _ n c 0 0 Tryz.underlying23
 go_enter Tryz.func40, Tryz.ntmps40
 go_wp2_with (first | (at_builtin; refine wpList_fracs (l := []) (n := 0) rfl _ _ rfl HF.out.2.2.size (rws_none w 46 2 rfl qN) HF.out.1 HF.out.2.1 hn0 rfl rfl (by omega) ?_; intro v' w' ho' hg') | fail)
 have HO := qH (qA ho' (Rws.old (rws_none w 46 2 rfl (Nat.le_refl w.heap.size)) hg' HF.out.2.2 qN HF.out.2.2.size))
 clear ho' hg'
 go_wp2_with fail
 go_ret
 exact ⟨v', rfl, by have := HO.out.1; rwa [Nat.zero_add, List.nil_append] at this, HO.out.2⟩
set_option maxRecDepth 100000 in
set_option maxHeartbeats 1000000 in
theorem clone_rows (ao : Option Addr) (b off n c : Nat) (vs : List Value) (w : World) (hl : vs.length = n) (hn0 : 0 < n) (hn : n ≤ 1000) (hF : VCells w ao b off vs) (hnn : ∀ u ∈ vs, NotInt u ∧ u.oneCell' = true) :
  Calls Tryz.prog 38 #[.slice ao n c] w fun e w' => ∃ v, e = .returned v ∧ Rws w' w.heap.size 23 1 v n vs ∧ Below w.heap.size w w' := by
 have ha := hF.addr (by omega)
 subst ha
 have hb1 : Below w.heap.size w (w.alloc (.cells #[] 23)) := balloc qB qN
 have HF := qH (qA (hF.below hb1) (qA hl hb1))
 have HN := qH hnn
 clear hF hl hb1 hnn
 have hq : ∀ (W : World), (binOp .eql 22 (.slice (some ⟨b, off, none⟩) n c) (.slice none 0 0)).run Tryz.prog W = .ok (.bool false) W := fun W => Lib.run_eql_slice_nil W _ _ _ n c 0 0 Tryz.underlying22
 go_enter Tryz.func38, Tryz.ntmps38
 go_wp2_with (first | (at_builtin; refine wpList_rows (vs := []) (n := 0) rfl _ _ rfl HF.out.2.2.size (rws_none w 23 1 rfl qN) HF.out.1 HN.out HF.out.2.1 hn0 rfl rfl (by omega) ?_; intro v' w' ho' hg') | fail)
 have HO := qH (qA ho' (Rws.old (rws_none w 23 1 rfl (Nat.le_refl w.heap.size)) hg' HF.out.2.2 qN HF.out.2.2.size))
 clear ho' hg'
 go_wp2_with fail
 go_ret
 exact ⟨v', rfl, by have := HO.out.1; rwa [Nat.zero_add, List.nil_append] at this, HO.out.2⟩
end Go.Proofs.YtfminfgabiipjaaGreatDoor
end
section
namespace Go.Proofs.YtfminfgabiipjaaGreatDoor
open Go.RowKit
def mixR (vs : List Value) (i : Nat) : List Value := (List.range vs.length).map fun k => if k < i ∨ vs.length - 1 - i < k then vs.getD (vs.length - 1 - k) undef else vs.getD k undef
theorem mixR_len (vs : List Value) (i : Nat) : (mixR vs i).length = vs.length := by unfold mixR; rw [List.length_map, List.length_range]
theorem mixR_get {vs : List Value} {i k : Nat} (hk : k < vs.length) : (mixR vs i)[k]? = some (if k < i ∨ vs.length - 1 - i < k then vs.getD (vs.length - 1 - k) undef else vs.getD k undef) := by
 unfold mixR; rw [List.getElem?_map, List.getElem?_range hk]; rfl
theorem mixR_zero (vs : List Value) : mixR vs 0 = vs := by
 apply List.ext_getElem?
 intro k
 by_cases hk : k < vs.length
 ·rw [mixR_get hk, if_neg (by omega), List.getD_eq_getElem?_getD, List.getElem?_eq_getElem hk]; rfl
 ·rw [List.getElem?_eq_none (by rw [mixR_len]; omega), List.getElem?_eq_none (by omega)]
theorem mixR_end {vs : List Value} {i : Nat} (hi : vs.length ≤ i + i + 1) : mixR vs i = vs.reverse := by
 apply List.ext_getElem?
 intro k
 by_cases hk : k < vs.length
 ·rw [mixR_get hk, List.getElem?_reverse hk]
  by_cases h : k < i ∨ vs.length - 1 - i < k
  ·rw [if_pos h, List.getD_eq_getElem?_getD, List.getElem?_eq_getElem (by omega)]; rfl
  ·rw [if_neg h, show vs.length - 1 - k = k by omega, List.getD_eq_getElem?_getD, List.getElem?_eq_getElem hk]; rfl
 ·rw [List.getElem?_eq_none (by rw [mixR_len]; omega), List.getElem?_eq_none (by rw [List.length_reverse]; omega)]
theorem mixR_next {vs : List Value} {i : Nat} (hi : i < vs.length - 1 - i) (r : List Value) :
  (((mixR vs i ++ r).toArray.setIfInBounds i (vs.getD (vs.length - 1 - i) undef)).setIfInBounds (vs.length - 1 - i) (vs.getD i undef)) = (mixR vs (i + 1) ++ r).toArray := by
 rw [List.setIfInBounds_toArray, List.setIfInBounds_toArray]
 congr 1
 rw [List.set_append_left _ _ (by rw [mixR_len]; omega), List.set_append_left _ _ (by rw [List.length_set, mixR_len]; omega)]
 congr 1
 apply List.ext_getElem?
 intro k
 by_cases hk : k < vs.length
 ·rw [mixR_get hk]
  by_cases h1 : k = vs.length - 1 - i
  ·subst h1
   rw [List.getElem?_set_self (by rw [List.length_set, mixR_len]; exact hk), if_pos (Or.inr (by omega)), show vs.length - 1 - (vs.length - 1 - i) = i by omega]
  ·rw [List.getElem?_set_ne (by omega)]
   by_cases h2 : k = i
   ·subst h2
    rw [List.getElem?_set_self (by rw [mixR_len]; exact hk), if_pos (Or.inl (by omega))]
   ·rw [List.getElem?_set_ne (by omega), mixR_get hk]
    by_cases h3 : k < i ∨ vs.length - 1 - i < k
    ·rw [if_pos h3, if_pos (by omega)]
    ·rw [if_neg h3, if_neg (by omega)]
 ·rw [List.getElem?_eq_none (by rw [List.length_set, List.length_set, mixR_len]; omega), List.getElem?_eq_none (by rw [mixR_len]; omega)]
set_option maxRecDepth 100000 in
set_option maxHeartbeats 2000000 in
theorem reverse_rows (v : Value) (n B : Nat) (vs : List Value) (w : World) (hn0 : 0 < n) (hn : n ≤ 1000) (h : Rws w B 23 1 v n vs) (hnn : ∀ u ∈ vs, ∃ (a : Option Addr) (m c : Nat), u = .slice a m c) :
  Calls Tryz.prog 43 #[v] w fun e w' => e = .returned (.tuple #[]) ∧ Rws w' B 23 1 v n vs.reverse ∧ w.grownBy w' v.ownBlock := by
 have hl : vs.length = n := by have := h.1; omega
 rcases h.2 with ⟨_, h0⟩ | ⟨g, cap, cur, rfl, hbg, hg, hnc, hcm, hcs, htake, hcn⟩
 ·omega
 rw [Nat.mul_one] at htake hcs
 obtain ⟨r, hr⟩ : ∃ r, cur = (vs ++ r).toArray := ⟨cur.toList.drop n, by rw [← htake, List.take_append_drop]⟩
 have hlr : n + r.length = cap := by rw [← hcs, hr]; simp [hl]
 have hrn : ∀ x ∈ r, NotInt x := fun x hx => hcn x (by rw [hr]; simp [hx])
 have hg0 : w.heap[g]? = some (.cells (mixR vs 0 ++ r).toArray 23 (0, 0)) := by rw [mixR_zero, ← hr]; exact hg
 have H := qH (qA hg0 (qA hl (qA hnn (qA hbg (qA hcm (qA hlr hrn))))))
 clear hr hlr hrn hg0 hg hcs htake hcn hl hnn h hbg hcm
 have e1 : (n : Int) - 1 = ((n - 1 : Nat) : Int) := by omega
 go_enter Tryz.func43, Tryz.ntmps43
 go_wp2_with fail
 clear e1
 go_loopw [2, 3] (fun x2 x3 W => ∃ i j : Nat, x2 = .int .i64 i ∧ x3 = .int .i64 j ∧ j + i + 1 = n ∧ i ≤ j + 1 ∧ Hid (W.heap[g]? = some (.cells (mixR vs i ++ r).toArray 23 (0, 0))) ∧ Hid (w.grownBy W (some g))) (fun x2 _ _ => n - (intOf x2).toNat)
 case atStart => exact ⟨0, n - 1, rfl, rfl, by omega, by omega, qH H.out.1, qH (keep_refl _ _)⟩
 case round =>
  obtain ⟨i, j, rfl, rfl, hj, hij, hW, hK⟩ := hrel
  by_cases hlt : i < j
  ·have hii : (i : Int) < j := by omega
   have hin : (i : Int) < n := by omega
   have hjn : (j : Int) < n := by omega
   have hij0 : i ≠ j := by omega
   have hxi : (mixR vs i ++ r).toArray[i]? = some (vs.getD i undef) := by rw [List.getElem?_toArray, List.getElem?_append_left (by rw [mixR_len, H.out.2.1]; omega), mixR_get (by rw [H.out.2.1]; omega), if_neg (by rw [H.out.2.1]; omega)]
   have hxj : (mixR vs i ++ r).toArray[j]? = some (vs.getD j undef) := by rw [List.getElem?_toArray, List.getElem?_append_left (by rw [mixR_len, H.out.2.1]; omega), mixR_get (by rw [H.out.2.1]; omega), if_neg (by rw [H.out.2.1]; omega)]
   obtain ⟨x, hx⟩ : ∃ x, vs.getD i undef = x := ⟨_, rfl⟩
   obtain ⟨y, hy⟩ : ∃ y, vs.getD j undef = y := ⟨_, rfl⟩
   rw [hx] at hxi
   rw [hy] at hxj
   have cx := (cell_of_row _ _ i _ _ _ hW.out).trans hxi
   have cy := (cell_of_row _ _ j _ _ _ hW.out).trans hxj
   have fi := frozen_of_row _ _ i _ _ hW.out
   have fj := frozen_of_row _ _ j _ _ hW.out
   obtain ⟨ax, mx, kx, rfl⟩ : ∃ (a : Option Addr) (m c : Nat), x = .slice a m c := by rw [← hx, List.getD_eq_getElem?_getD, List.getElem?_eq_getElem (by rw [H.out.2.1]; omega)]; exact H.out.2.2.1 _ (List.getElem_mem _)
   obtain ⟨ay, my, ky, rfl⟩ : ∃ (a : Option Addr) (m c : Nat), y = .slice a m c := by rw [← hy, List.getD_eq_getElem?_getD, List.getElem?_eq_getElem (by rw [H.out.2.1]; omega)]; exact H.out.2.2.1 _ (List.getElem_mem _)
   have HX := qH (qA hx hy)
   clear hx hy hxi hxj
   go_wp2_with fail
   go_region
   all_goals go_wp2_with fail
   all_goals go_roundw
   case rel =>
    refine ⟨i + 1, j - 1, by go_num, by rw [show ((j : Int) - 1) = ((j - 1 : Nat) : Int) by omega], by omega, by omega, qH ?_, qH (keep_trans hK.out (keep_trans (keep_trans (least.set_keep wr g i (.slice ay my ky)) (least.set_keep _ g j (.slice ax mx kx))) (below_keep g qB.drew)))⟩
    have hh := heap_setCell_same _ g j _ _ (.slice ax mx kx) (heap_setCell_same _ g i _ _ (.slice ay my ky) hW.out)
    have hjl : j = vs.length - 1 - i := by rw [H.out.2.1]; omega
    have hm := mixR_next (vs := vs) (i := i) (by rw [H.out.2.1]; omega) r
    rw [← hjl, HX.out.1, HX.out.2] at hm
    rw [hm] at hh
    exact hh
   case measure => simp [intOf]; omega
  ·have hii : ¬ (i : Int) < j := by omega
   go_wp2_with fail
   have hm := mixR_end (vs := vs) (i := i) (by rw [H.out.2.1]; omega)
   have hh := hW.out
   rw [hm] at hh
   have hl := H.out.2.1
   have hlr := H.out.2.2.2.2.2.1
   refine bodyPost_end (results_none rfl _ _ _) rfl ⟨rfl, ⟨by rw [List.length_reverse]; omega, .inr ⟨g, cap, _, rfl, H.out.2.2.2.1, hh, hnc, H.out.2.2.2.2.1, ?_, ?_, ?_⟩⟩, hK.out⟩
   ·simp; omega
   ·rw [Nat.mul_one, List.toList_toArray, List.take_append_of_le_length (by rw [List.length_reverse]; omega), List.take_of_length_le (by rw [List.length_reverse]; omega)]
   ·intro u hu
    rw [List.toList_toArray] at hu
    rcases List.mem_append.1 hu with h | h
    ·obtain ⟨a, m, c, rfl⟩ := H.out.2.2.1 u (List.mem_reverse.1 h)
     exact slice_not _ _ _
    ·exact H.out.2.2.2.2.2.2 u h
end Go.Proofs.YtfminfgabiipjaaGreatDoor
end
section
namespace Go.Proofs.YtfminfgabiipjaaGreatDoor
open Go.RowKit
theorem ftxt_ex (q : Rat) : ∃ s t, ftxt q = (s, t) := ⟨_, _, rfl⟩
theorem mul_txt {p q : Rat} {p1 p2 q1 q2 z1 z2 : ByteArray} (hp : ftxt p = (p1, p2)) (hq : ftxt q = (q1, q2)) (hz : ftxt (p * q) = (z1, z2)) (sp : Short p) (sq : Short q) (sz : Short (p * q)) (w : World) (hT : HasT w) :
  Calls Tryz.prog 42 #[.agg #[.string p1, .string p2], .agg #[.string q1, .string q2]] w fun e w' => e = .returned (.tuple #[.agg #[.string z1, .string z2], .int .i64 0]) ∧ Below w.heap.size w w' := by
 have e1 : p1 = (ftxt p).1 := by rw [hp]
 have e2 : p2 = (ftxt p).2 := by rw [hp]
 have e3 : q1 = (ftxt q).1 := by rw [hq]
 have e4 : q2 = (ftxt q).2 := by rw [hq]
 have f1 : z1 = (ftxt (p * q)).1 := by rw [hz]
 have f2 : z2 = (ftxt (p * q)).2 := by rw [hz]
 subst e1 e2 e3 e4 f1 f2
 refine (fmul_any _ _ _ _ w hT).mono ?_
 rintro e w' ⟨⟨_, h⟩ | ⟨h, _⟩, hb⟩
 ·rw [fval_ftxt, fval_ftxt] at h
  rcases h with ⟨_, h⟩ | ⟨h, _⟩
  ·exact ⟨h, hb⟩
  ·exact absurd sz h
 ·exact absurd ⟨fok_ftxt sp, fok_ftxt sq⟩ h
theorem add_txt {p q : Rat} {p1 p2 q1 q2 z1 z2 : ByteArray} (hp : ftxt p = (p1, p2)) (hq : ftxt q = (q1, q2)) (hz : ftxt (p + q) = (z1, z2)) (sp : Short p) (sq : Short q) (sz : Short (p + q)) (w : World) (hT : HasT w) :
  Calls Tryz.prog 41 #[.agg #[.string p1, .string p2], .agg #[.string q1, .string q2]] w fun e w' => e = .returned (.tuple #[.agg #[.string z1, .string z2], .int .i64 0]) ∧ Below w.heap.size w w' := by
 have e1 : p1 = (ftxt p).1 := by rw [hp]
 have e2 : p2 = (ftxt p).2 := by rw [hp]
 have e3 : q1 = (ftxt q).1 := by rw [hq]
 have e4 : q2 = (ftxt q).2 := by rw [hq]
 have f1 : z1 = (ftxt (p + q)).1 := by rw [hz]
 have f2 : z2 = (ftxt (p + q)).2 := by rw [hz]
 subst e1 e2 e3 e4 f1 f2
 refine (fadd_any _ _ _ _ w hT).mono ?_
 rintro e w' ⟨⟨_, h⟩ | ⟨h, _⟩, hb⟩
 ·rw [fval_ftxt, fval_ftxt] at h
  rcases h with ⟨_, h⟩ | ⟨h, _⟩
  ·exact ⟨h, hb⟩
  ·exact absurd sz h
 ·exact absurd ⟨fok_ftxt sp, fok_ftxt sq⟩ h
theorem told_cell {W : World} {ao : Option Addr} {b off n : Nat} {x : Nat → Rat} {j : Nat} {x1 x2 : ByteArray} (hf : FCells W ao b off (told n x)) (hj : j < n) (hx : ftxt (x j) = (x1, x2)) : W.cell? ⟨b, off + j * 2, none⟩ = some (.string x1) ∧ W.cell? ⟨b, off + j * 2 + 1, none⟩ = some (.string x2) := by
 have h := hf.cell j (by rw [told_len]; exact hj)
 rw [told_at hj, hx] at h
 exact h
end Go.Proofs.YtfminfgabiipjaaGreatDoor
end
