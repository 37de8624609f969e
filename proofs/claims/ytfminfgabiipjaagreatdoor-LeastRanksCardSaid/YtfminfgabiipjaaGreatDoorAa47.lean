/- Aa, part 47: Tim Rev -/
import Derived.Deep.RegionHeld3
import Derived.Test.YtfminfgabiipjaaGreatDoorAa0
import Derived.Test.YtfminfgabiipjaaGreatDoorAa19
import Derived.Test.YtfminfgabiipjaaGreatDoorAa28
import Derived.Test.YtfminfgabiipjaaGreatDoorAa42
set_option maxRecDepth 100000
set_option maxHeartbeats 16000000
namespace Go.Proofs.YtfminfgabiipjaaGreatDoor
open Go.RowKit
theorem qdm (q : Rat) : ∃ s t, ftxt q = (s, t) := ⟨_, _, rfl⟩
theorem qjA {p q : Rat} {p1 p2 q1 q2 z1 z2 : ByteArray} (hp : ftxt p = (p1, p2)) (hq : ftxt q = (q1, q2)) (hz : ftxt (p * q) = (z1, z2)) (sp : Short p) (sq : Short q) (sz : Short (p * q)) (w : World) (hT : HasT w) :
  Calls Tryz.prog 42 #[.agg #[.string p1, .string p2], .agg #[.string q1, .string q2]] w fun e w' => e = .returned (.tuple #[.agg #[.string z1, .string z2], .int .i64 0]) ∧ Below w.heap.size w w' := by
 have e1 : p1 = (ftxt p).1 := by rw [hp]
 have e2 : p2 = (ftxt p).2 := by rw [hp]
 have e3 : q1 = (ftxt q).1 := by rw [hq]
 have e4 : q2 = (ftxt q).2 := by rw [hq]
 have f1 : z1 = (ftxt (p * q)).1 := by rw [hz]
 have f2 : z2 = (ftxt (p * q)).2 := by rw [hz]
 subst e1 e2 e3 e4 f1 f2
 refine (fmul_any _ _ _ _ w hT).mono ?_
 rintro e w' ⟨⟨_, h⟩ | ⟨h, _⟩, hb⟩
 ·rw [qde, qde] at h
  rcases h with ⟨_, h⟩ | ⟨h, _⟩
  ·exact ⟨h, hb⟩
  ·exact absurd sz h
 ·exact absurd ⟨qeb sp, qeb sq⟩ h
theorem qjl {p q : Rat} {p1 p2 q1 q2 z1 z2 : ByteArray} (hp : ftxt p = (p1, p2)) (hq : ftxt q = (q1, q2)) (hz : ftxt (p + q) = (z1, z2)) (sp : Short p) (sq : Short q) (sz : Short (p + q)) (w : World) (hT : HasT w) :
  Calls Tryz.prog 41 #[.agg #[.string p1, .string p2], .agg #[.string q1, .string q2]] w fun e w' => e = .returned (.tuple #[.agg #[.string z1, .string z2], .int .i64 0]) ∧ Below w.heap.size w w' := by
 have e1 : p1 = (ftxt p).1 := by rw [hp]
 have e2 : p2 = (ftxt p).2 := by rw [hp]
 have e3 : q1 = (ftxt q).1 := by rw [hq]
 have e4 : q2 = (ftxt q).2 := by rw [hq]
 have f1 : z1 = (ftxt (p + q)).1 := by rw [hz]
 have f2 : z2 = (ftxt (p + q)).2 := by rw [hz]
 subst e1 e2 e3 e4 f1 f2
 refine (fadd_any _ _ _ _ w hT).mono ?_
 rintro e w' ⟨⟨_, h⟩ | ⟨h, _⟩, hb⟩
 ·rw [qde, qde] at h
  rcases h with ⟨_, h⟩ | ⟨h, _⟩
  ·exact ⟨h, hb⟩
  ·exact absurd sz h
 ·exact absurd ⟨qeb sp, qeb sq⟩ h
theorem qcL {W : World} {ao : Option Addr} {b off n : Nat} {x : Nat → Rat} {j : Nat} {x1 x2 : ByteArray} (hf : FCells W ao b off (told n x)) (hj : j < n) (hx : ftxt (x j) = (x1, x2)) : W.cell? ⟨b, off + j * 2, none⟩ = some (.string x1) ∧ W.cell? ⟨b, off + j * 2 + 1, none⟩ = some (.string x2) := by
 have h := hf.cell j (by rw [qb2]; exact hj)
 rw [qdP hj, hx] at h
 exact h
def mixR (vs : List Value) (i : Nat) : List Value := (List.range vs.length).map fun k => if k < i ∨ vs.length - 1 - i < k then vs.getD (vs.length - 1 - k) undef else vs.getD k undef
theorem qdH (vs : List Value) (i : Nat) : (mixR vs i).length = vs.length := by unfold mixR; rw [qaG, qbd]
theorem qfd {vs : List Value} {i k : Nat} (hk : k < vs.length) : (mixR vs i)[k]? = some (if k < i ∨ vs.length - 1 - i < k then vs.getD (vs.length - 1 - k) undef else vs.getD k undef) := by
 unfold mixR; rw [qav, qaI hk]; rfl
theorem qlY (vs : List Value) : mixR vs 0 = vs := by
 apply qbw
 intro k
 by_cases hk : k < vs.length
 ·rw [qfd hk, if_neg (by omega), qac, qai hk]; rfl
 ·rw [qau (by rw [qdH]; omega), qau (by omega)]
theorem mixR_end {vs : List Value} {i : Nat} (hi : vs.length ≤ i + i + 1) : mixR vs i = vs.reverse := by
 apply qbw
 intro k
 by_cases hk : k < vs.length
 ·rw [qfd hk, List.getElem?_reverse hk]
  by_cases h : k < i ∨ vs.length - 1 - i < k
  ·rw [if_pos h, qac, qai (by omega)]; rfl
  ·rw [if_neg h, show vs.length - 1 - k = k by omega, qac, qai hk]; rfl
 ·rw [qau (by rw [qdH]; omega), qau (by rw [qbS]; omega)]
theorem qlX {vs : List Value} {i : Nat} (hi : i < vs.length - 1 - i) (r : List Value) :
  (((mixR vs i ++ r).toArray.setIfInBounds i (vs.getD (vs.length - 1 - i) undef)).setIfInBounds (vs.length - 1 - i) (vs.getD i undef)) = (mixR vs (i + 1) ++ r).toArray := by
 rw [qaa, qaa]
 congr 1
 rw [List.set_append_left _ _ (by rw [qdH]; omega), List.set_append_left _ _ (by rw [qaS, qdH]; omega)]
 congr 1
 apply qbw
 intro k
 by_cases hk : k < vs.length
 ·rw [qfd hk]
  by_cases h1 : k = vs.length - 1 - i
  ·subst h1
   rw [qbt (by rw [qaS, qdH]; exact hk), if_pos (qas (by omega)), show vs.length - 1 - (vs.length - 1 - i) = i by omega]
  ·rw [qbA (by omega)]
   by_cases h2 : k = i
   ·subst h2
    rw [qbt (by rw [qdH]; exact hk), if_pos (qaA (by omega))]
   ·rw [qbA (by omega), qfd hk]
    by_cases h3 : k < i ∨ vs.length - 1 - i < k
    ·rw [if_pos h3, if_pos (by omega)]
    ·rw [if_neg h3, if_neg (by omega)]
 ·rw [qau (by rw [qaS, qaS, qdH]; omega), qau (by rw [qdH]; omega)]
theorem qi1 (v : Value) (n B : Nat) (vs : List Value) (w : World) (hn0 : 0 < n) (hn : n ≤ 1000) (h : Rws w B 23 1 v n vs) (hnn : ∀ u ∈ vs, ∃ (a : Option Addr) (m c : Nat), u = .slice a m c) :
  Calls Tryz.prog 43 #[v] w fun e w' => e = .returned (.tuple #[]) ∧ Rws w' B 23 1 v n vs.reverse ∧ w.grownBy w' v.ownBlock := by
 have hl : vs.length = n := by have := h.1; omega
 rcases h.2 with ⟨_, h0⟩ | ⟨g, cap, cur, rfl, hbg, hg, hnc, hcm, hcs, htake, hcn⟩
 ·omega
 rw [qbN] at htake hcs
 obtain ⟨r, hr⟩ : ∃ r, cur = (vs ++ r).toArray := ⟨cur.toList.drop n, by rw [← htake, qa9]⟩
 have hlr : n + r.length = cap := by rw [← hcs, hr]; simp [hl]
 have hrn : ∀ x ∈ r, qcD x := fun x hx => hcn x (by rw [hr]; simp [hx])
 have hg0 : w.heap[g]? = some (.cells (mixR vs 0 ++ r).toArray 23 (0, 0)) := by rw [qlY, ← hr]; exact hg
 have H := qH (qA hg0 (qA hl (qA hnn (qA hbg (qA hcm (qA hlr hrn))))))
 clear hr hlr hrn hg0 hg hcs htake hcn hl hnn h hbg hcm
 have e1 : (n : Int) - 1 = ((n - 1 : Nat) : Int) := by omega
 go_enter Tryz.func43, Tryz.ntmps43
 go_wp2_with fail
 clear e1
 go_loopw [2, 3] (fun x2 x3 W => ∃ i j : Nat, x2 = .int .i64 i ∧ x3 = .int .i64 j ∧ j + i + 1 = n ∧ i ≤ j + 1 ∧ Hid (W.heap[g]? = some (.cells (mixR vs i ++ r).toArray 23 (0, 0))) ∧ Hid (w.grownBy W (some g))) (fun x2 _ _ => n - (intOf x2).toNat)
 case atStart => exact ⟨0, n - 1, rfl, rfl, by omega, by omega, qH H.out.1, qH (qcP _ _)⟩
 case round =>
  obtain ⟨i, j, rfl, rfl, hj, hij, hW, hK⟩ := hrel
  by_cases hlt : i < j
  ·have hii : (i : Int) < j := by omega
   have hin : (i : Int) < n := by omega
   have hjn : (j : Int) < n := by omega
   have hij0 : i ≠ j := by omega
   have hxi : (mixR vs i ++ r).toArray[i]? = some (vs.getD i undef) := by rw [qax, qay (by rw [qdH, H.out.2.1]; omega), qfd (by rw [H.out.2.1]; omega), if_neg (by rw [H.out.2.1]; omega)]
   have hxj : (mixR vs i ++ r).toArray[j]? = some (vs.getD j undef) := by rw [qax, qay (by rw [qdH, H.out.2.1]; omega), qfd (by rw [H.out.2.1]; omega), if_neg (by rw [H.out.2.1]; omega)]
   obtain ⟨x, hx⟩ : ∃ x, vs.getD i undef = x := ⟨_, rfl⟩
   obtain ⟨y, hy⟩ : ∃ y, vs.getD j undef = y := ⟨_, rfl⟩
   rw [hx] at hxi
   rw [hy] at hxj
   have cx := (cell_of_row _ _ i _ _ _ hW.out).trans hxi
   have cy := (cell_of_row _ _ j _ _ _ hW.out).trans hxj
   have fi := frozen_of_row _ _ i _ _ hW.out
   have fj := frozen_of_row _ _ j _ _ hW.out
   obtain ⟨ax, mx, kx, rfl⟩ : ∃ (a : Option Addr) (m c : Nat), x = .slice a m c := by rw [← hx, qac, qai (by rw [H.out.2.1]; omega)]; exact H.out.2.2.1 _ (List.getElem_mem _)
   obtain ⟨ay, my, ky, rfl⟩ : ∃ (a : Option Addr) (m c : Nat), y = .slice a m c := by rw [← hy, qac, qai (by rw [H.out.2.1]; omega)]; exact H.out.2.2.1 _ (List.getElem_mem _)
   have HX := qH (qA hx hy)
   clear hx hy hxi hxj
   go_wp2_with fail
   go_region
   all_goals go_wp2_with fail
   all_goals go_roundw
   case rel =>
    refine ⟨i + 1, j - 1, by go_num, by rw [show ((j : Int) - 1) = ((j - 1 : Nat) : Int) by omega], by omega, by omega, qH ?_, qH (qca hK.out (qca (qca (least.qcb wr g i (.slice ay my ky)) (least.qcb _ g j (.slice ax mx kx))) (qcd g qB.drew)))⟩
    have hh := heap_setCell_same _ g j _ _ (.slice ax mx kx) (heap_setCell_same _ g i _ _ (.slice ay my ky) hW.out)
    have hjl : j = vs.length - 1 - i := by rw [H.out.2.1]; omega
    have hm := qlX (vs := vs) (i := i) (by rw [H.out.2.1]; omega) r
    rw [← hjl, HX.out.1, HX.out.2] at hm
    rw [hm] at hh
    exact hh
   case measure => simp [intOf]; omega
  ·have hii : ¬ (i : Int) < j := by omega
   go_wp2_with fail
   have hm := mixR_end (vs := vs) (i := i) (by rw [H.out.2.1]; omega)
   have hh := hW.out
   rw [hm] at hh
   have hl := H.out.2.1
   have hlr := H.out.2.2.2.2.2.1
   refine bodyPost_end (results_none rfl _ _ _) rfl ⟨rfl, ⟨by rw [qbS]; omega, .inr ⟨g, cap, _, rfl, H.out.2.2.2.1, hh, hnc, H.out.2.2.2.2.1, ?_, ?_, ?_⟩⟩, hK.out⟩
   ·simp; omega
   ·rw [qbN, List.toList_toArray, List.take_append_of_le_length (by rw [qbS]; omega), qal (by rw [qbS]; omega)]
   ·intro u hu
    rw [List.toList_toArray] at hu
    rcases qa6.1 hu with h | h
    ·obtain ⟨a, m, c, rfl⟩ := H.out.2.2.1 u (List.mem_reverse.1 h)
     exact qd7 _ _ _
    ·exact H.out.2.2.2.2.2.2 u h
end Go.Proofs.YtfminfgabiipjaaGreatDoor
