/- Aa, part 47: Tim Rev -/
import Derived.Deep.RegionHeld3
import Derived.Test.YtfminfgabiipjaaGreatDoorAa0
import Derived.Test.YtfminfgabiipjaaGreatDoorAa19
import Derived.Test.YtfminfgabiipjaaGreatDoorAa28
import Derived.Test.YtfminfgabiipjaaGreatDoorAa42
set_option maxRecDepth 100000
set_option maxHeartbeats 16000000
namespace Go.Proofs.YtfminfgabiipjaaGreatDoor
open Go.RowKit
theorem qd2 (q : Rat) : ∃ s t, ftxt q = (s, t) := ⟨_, _, rfl⟩
theorem qlj {p q : Rat} {p1 p2 q1 q2 z1 z2 : ByteArray} (hp : ftxt p = (p1, p2)) (hq : ftxt q = (q1, q2)) (hz : ftxt (p * q) = (z1, z2)) (sp : Short p) (sq : Short q) (sz : Short (p * q)) (w : World) (hT : HasT w) :
  Calls Tryz.prog 42 #[.agg #[.string p1, .string p2], .agg #[.string q1, .string q2]] w fun e w' => e = .returned (.tuple #[.agg #[.string z1, .string z2], .int .i64 0]) ∧ Below w.heap.size w w' := by
 have e1 : p1 = (ftxt p).1 := by rw [hp]
 have e2 : p2 = (ftxt p).2 := by rw [hp]
 have e3 : q1 = (ftxt q).1 := by rw [hq]
 have e4 : q2 = (ftxt q).2 := by rw [hq]
 have f1 : z1 = (ftxt (p * q)).1 := by rw [hz]
 have f2 : z2 = (ftxt (p * q)).2 := by rw [hz]
 subst e1 e2 e3 e4 f1 f2
 refine (fmul_any _ _ _ _ w hT).mono ?_
 rintro e w' ⟨⟨_, h⟩ | ⟨h, _⟩, hb⟩
 ·rw [qc6, qc6] at h
  rcases h with ⟨_, h⟩ | ⟨h, _⟩
  ·exact ⟨h, hb⟩
  ·exact absurd sz h
 ·exact absurd ⟨qdV sp, qdV sq⟩ h
theorem qkA {p q : Rat} {p1 p2 q1 q2 z1 z2 : ByteArray} (hp : ftxt p = (p1, p2)) (hq : ftxt q = (q1, q2)) (hz : ftxt (p + q) = (z1, z2)) (sp : Short p) (sq : Short q) (sz : Short (p + q)) (w : World) (hT : HasT w) :
  Calls Tryz.prog 41 #[.agg #[.string p1, .string p2], .agg #[.string q1, .string q2]] w fun e w' => e = .returned (.tuple #[.agg #[.string z1, .string z2], .int .i64 0]) ∧ Below w.heap.size w w' := by
 have e1 : p1 = (ftxt p).1 := by rw [hp]
 have e2 : p2 = (ftxt p).2 := by rw [hp]
 have e3 : q1 = (ftxt q).1 := by rw [hq]
 have e4 : q2 = (ftxt q).2 := by rw [hq]
 have f1 : z1 = (ftxt (p + q)).1 := by rw [hz]
 have f2 : z2 = (ftxt (p + q)).2 := by rw [hz]
 subst e1 e2 e3 e4 f1 f2
 refine (fadd_any _ _ _ _ w hT).mono ?_
 rintro e w' ⟨⟨_, h⟩ | ⟨h, _⟩, hb⟩
 ·rw [qc6, qc6] at h
  rcases h with ⟨_, h⟩ | ⟨h, _⟩
  ·exact ⟨h, hb⟩
  ·exact absurd sz h
 ·exact absurd ⟨qdV sp, qdV sq⟩ h
theorem qdC {W : World} {ao : Option Addr} {b off n : Nat} {x : Nat → Rat} {j : Nat} {x1 x2 : ByteArray} (hf : FCells W ao b off (told n x)) (hj : j < n) (hx : ftxt (x j) = (x1, x2)) : W.cell? ⟨b, off + j * 2, none⟩ = some (.string x1) ∧ W.cell? ⟨b, off + j * 2 + 1, none⟩ = some (.string x2) := by
 have h := hf.cell j (by rw [qbZ]; exact hj)
 rw [qeA hj, hx] at h
 exact h
theorem qct (ao : Option Addr) (b off c : Nat) (ao2 : Option Addr) (b2 off2 c2 m : Nat) (p q : Nat → Rat) (w : World) (hm0 : 0 < m) (hm : m ≤ 1000) (hP : HasT w) (hF : FCells w ao b off (told m p)) (hF2 : FCells w ao2 b2 off2 (told m q))
  (hs : ∀ k, k ≤ m → Short (sumQ k fun j => p j * q j)) (hs2 : ∀ j, j < m → Short (p j * q j)) (hp : qb9 m p) (hq : qb9 m q) :
  Calls Tryz.prog 46 #[.slice ao m c, .slice ao2 m c2] w fun e w' => e = .returned (fstr (sumQ m fun j => p j * q j)) ∧ Below w.heap.size w w' := by
 have ha := hF.addr (by rw [qbZ]; exact hm0)
 have ha2 := hF2.addr (by rw [qbZ]; exact hm0)
 subst ha ha2
 have HK := qH (qA hF (qA hF2 hP))
 have HSh := qH (qA hs (qA hs2 (qA hp hq)))
 clear hF hF2 hP hs hs2 hp hq
 have hb1 : Below w.heap.size w (w.alloc (.cells #[.string ⟨#[]⟩, .string ⟨#[]⟩] 46)) := qbW qB qN
 have hr1 : (w.alloc (.cells #[.string ⟨#[]⟩, .string ⟨#[]⟩] 46)).heap[w.heap.size]? = some (.cells #[.string ⟨#[]⟩, .string ⟨#[]⟩] 46 (0, 0)) := qM _ _ _ rfl
 have hq0 := q_0 (w.alloc (.cells #[.string ⟨#[]⟩, .string ⟨#[]⟩] 46))
 rw [qaa] at hq0
 have H1 := qH (qA hb1 (qA hr1 hq0))
 clear hb1 hr1 hq0
 go_enter Tryz.func46, Tryz.ntmps46
 go_wp2_with fail
 refine H1.out.2.2.mono ?_
 rintro e w2 ⟨a2, g2, cp2, rfl, hf2, hb2⟩
 have hb2 : Below (w.alloc (.cells #[.string ⟨#[]⟩, .string ⟨#[]⟩] 46)).heap.size (w.alloc (.cells #[.string ⟨#[]⟩, .string ⟨#[]⟩] 46)) w2 := by rw [qaa]; exact hb2
 have hga := hf2.addr (by rw [qbZ]; decide)
 subst hga
 obtain ⟨z0, z1⟩ := qgl hf2 (by decide) ft_0
 have hB2 : Below w.heap.size w w2 := qfL hb2
 have hR2 := zkeep hb2 _ _ H1.out.2.1
 obtain ⟨W3, hW3⟩ : ∃ W3, W3 = w2.alloc (.cells #[.string ⟨#[48]⟩, .string ⟨#[49]⟩] 46) := ⟨_, rfl⟩
 have hb3 : Below w2.heap.size w2 W3 := hW3 ▸ qbW qB qN
 have hr3 : W3.heap[w2.heap.size]? = some (.cells #[.string ⟨#[48]⟩, .string ⟨#[49]⟩] 46 (0, 0)) := by rw [hW3]; exact qM _ _ _ rfl
 have H3 := qH (qA (hB2.trans (hb3.mono hB2.size)) (qA (zkeep hb3 _ _ hR2) hr3))
 have hlt : w.heap.size < w2.heap.size := (qG hR2).1
 have Hlt := qH hlt
 clear hb2 hf2 hB2 hR2 hb3 hr3 hlt H1
 go_wp2_with fail
 rw [← hW3]
 clear hW3 z0 z1
 obtain ⟨gs, hgs⟩ : ∃ gs, w2.heap.size = gs := ⟨_, rfl⟩
 rw [hgs] at H3 Hlt ⊢
 clear hgs
 go_loopw [6, 7, 8, 18] (fun _ _ _ x18 W => ∃ (k : Nat) (s1 s2 : ByteArray), k ≤ m ∧ x18 = .int .i64 k ∧ Hid (W.heap[gs]? = some (.cells #[.string s1, .string s2] 46 (0, 0)) ∧ ftxt (sumQ k fun j => p j * q j) = (s1, s2)) ∧ Hid (Below w.heap.size w W ∧ W.heap[w.heap.size]? = some (.cells #[.string ⟨#[]⟩, .string ⟨#[]⟩] 46 (0, 0)))) (fun _ _ _ x18 _ => m - (intOf x18).toNat)
 case atStart => exact ⟨0, _, _, qaq _, rfl, qH ⟨H3.out.2.2, ft_0⟩, qH ⟨H3.out.1, H3.out.2.1⟩⟩
 case round =>
  obtain ⟨k, s1, s2, hk, rfl, hS, hB⟩ := hrel
  by_cases hkm : k < m
  ·have hki : (k : Int) < m := by omega
   obtain ⟨p1, p2, hp⟩ := qd2 (p k)
   obtain ⟨q1, q2, hq⟩ := qd2 (q k)
   obtain ⟨t1, t2, ht⟩ := qd2 (p k * q k)
   obtain ⟨u1, u2, hu⟩ := qd2 (sumQ k (fun j => p j * q j) + p k * q k)
   have hwr : Below wr.heap.size wr wr := Below.refl _ _
   have hwrD : Below wr.heap.size wr wr.drew := hwr.drew
   have k1 := fun (W : World) (h : Below wr.heap.size wr W) => (qdC ((HK.out.1.below hB.out.1).below h) hkm hp).1
   have k2 := fun (W : World) (h : Below wr.heap.size wr W) => (qdC ((HK.out.1.below hB.out.1).below h) hkm hp).2
   have k3 := fun (W : World) (h : Below wr.heap.size wr W) => (qdC ((HK.out.2.1.below hB.out.1).below h) hkm hq).1
   have k4 := fun (W : World) (h : Below wr.heap.size wr W) => (qdC ((HK.out.2.1.below hB.out.1).below h) hkm hq).2
   have HM := qH (fun (W : World) (h : Below w.heap.size w W) => qlj hp hq ht (HSh.out.2.2.1 k hkm) (HSh.out.2.2.2 k hkm) (HSh.out.2.1 k hkm) W (HK.out.2.2.below h))
   have HA := qH (fun (W : World) (h : Below w.heap.size w W) => qkA hS.out.2 ht hu (HSh.out.1 k hk) (HSh.out.2.1 k hkm) (HSh.out.1 (k + 1) hkm) W (HK.out.2.2.below h))
   have HU := qH hu
   clear hp hq ht hu
   have hwrA : Below wr.heap.size wr (wr.alloc (.cells #[.string ⟨#[]⟩, .string ⟨#[]⟩] 46)).drew := (qbW hwr qN).drew
   go_wp2_with fail
   go_cut [7, 8] (fun x7 x8 W => ∃ g7 : Nat, x7 = .pointer (some ⟨g7, 0, none⟩) ∧ x8 = .int .i64 0 ∧ FOne wr W g7 (t1, t2))
   case first =>
    go_region_held3 (fun W => Below wr.heap.size wr W) (first | with_reducible exact hwr | with_reducible exact hwrD | with_reducible exact hwrA | with_reducible exact HB6 | exact qbW HB6 qN | exact (HB6.setCell qN _).setCell qN _ | exact (HB6.setCell HB6.size _).setCell HB6.size _) (first | (go_at_call 42; refine (HM.out _ (hB.out.1.trans ((show Below wr.heap.size wr _ by first | with_reducible exact hwrD | with_reducible exact hwrA).mono hB.out.1.size))).mono ?_; rintro e w6 ⟨rfl, hb6⟩; have HB6 : Below wr.heap.size wr w6 := bjoin (by first | with_reducible exact hwrD | with_reducible exact hwrA) hb6; obtain ⟨k6, k6f⟩ := bcell hb6; have Z6 := qH (zkeep hb6); clear hb6))
    all_goals go_wp2_with fail
    all_goals go_meet
    all_goals refine ⟨_, rfl, rfl, ?_⟩
    all_goals first
     | with_reducible exact qkZ HB6
     | exact qjm HB6 qN (Z6.out _ _ (qM _ _ _ rfl))
   case rest =>
   obtain ⟨g7, rfl, rfl, ho1, hob, hog⟩ := hcut
   have H5 := qH (qA (hB.out.1.trans (hob.mono hB.out.1.size)) (qA (zkeep hob _ _ hB.out.2) (qA (zkeep hob _ _ hS.out.1) ho1)))
   clear k1 k2 k3 k4 ho1 hob hog hwr hwrD hwrA
   go_wp2_with (first | ((with_reducible refine qbY rfl 46 _ rfl (gs) ?_ 46 #[.string s1, .string s2] _ H5.out.2.2.1 Tryz.underlying46 ?_ 2 ?_ ?_ ?_); (next => rfl); (next => rfl); (next => kernel_rfl); (next => rfl)) | ((with_reducible refine qbY rfl 46 _ rfl (g7) ?_ 46 #[.string t1, .string t2] _ H5.out.2.2.2 Tryz.underlying46 ?_ 2 ?_ ?_ ?_); (next => rfl); (next => rfl); (next => kernel_rfl); (next => rfl)))
   refine (HA.out _ H5.out.1).mono ?_
   rintro e w6 ⟨rfl, hb6⟩
   have r6 := zkeep hb6 _ _ H5.out.2.2.1
   have hlt6 : w.heap.size < w6.heap.size := qak (qG H5.out.2.1).1 hb6.size
   have H6 := qH (qA (H5.out.1.trans (hb6.mono H5.out.1.size)) (qA (zkeep hb6 _ _ H5.out.2.1) r6))
   clear hb6 r6 hlt6
   go_wp2_with (first | ((with_reducible refine wpList_store_row rfl 46 _ _ rfl (gs) #[.string u1, .string u2] ?_ ?_ 46 _ H6.out.2.2 2 ?_ ?_ ?_ ?_ ?_); (next => rfl); (next => rfl); (next => kernel_rfl); (next => rfl); (next => rfl); (next => rfl)) | fail)
   go_roundw
   case rel => exact ⟨k + 1, u1, u2, hkm, by go_num, qH ⟨setRow_heap _ _ _ _ _ _ H6.out.2.2, HU.out⟩, qH ⟨below_setRow H6.out.1 (qan Hlt.out) _, (setRow_other _ _ _ _ (Nat.ne_of_lt Hlt.out)).trans H6.out.2.1⟩⟩
   case measure => simp [intOf]; omega
  ·obtain rfl : k = m := by omega
   have HE := qH (show fstr (sumQ k fun j => p j * q j) = .agg #[.string s1, .string s2] by have := hS.out.2; unfold ftxt at this; rw [Prod.mk.injEq] at this; unfold fstr; rw [this.1, this.2])
   go_wp2_with (first | ((with_reducible refine qbY rfl 46 _ rfl (gs) ?_ 46 #[.string s1, .string s2] _ hS.out.1 Tryz.underlying46 ?_ 2 ?_ ?_ ?_); (next => rfl); (next => rfl); (next => kernel_rfl); (next => rfl)) | ((with_reducible refine wpList_store_row rfl 46 _ _ rfl (w.heap.size) #[.string s1, .string s2] ?_ ?_ 46 _ hB.out.2 2 ?_ ?_ ?_ ?_ ?_); (next => rfl); (next => rfl); (next => kernel_rfl); (next => rfl); (next => rfl); (next => rfl)))
   exact bodyPost_ret (v := .agg #[.string s1, .string s2]) (qb3 rfl _ _ (w.heap.size) 46 _ _ rfl (setRow_heap _ _ _ _ _ _ hB.out.2) Tryz.underlying46 rfl 2 (by kernel_rfl) rfl) rfl ⟨by rw [HE.out], below_setRow hB.out.1 qN _⟩
def mixR (vs : List Value) (i : Nat) : List Value := (List.range vs.length).map fun k => if k < i ∨ vs.length - 1 - i < k then vs.getD (vs.length - 1 - k) undef else vs.getD k undef
theorem qdw (vs : List Value) (i : Nat) : (mixR vs i).length = vs.length := by unfold mixR; rw [qaG, qbq]
theorem qeV {vs : List Value} {i k : Nat} (hk : k < vs.length) : (mixR vs i)[k]? = some (if k < i ∨ vs.length - 1 - i < k then vs.getD (vs.length - 1 - k) undef else vs.getD k undef) := by
 unfold mixR; rw [qaA, qaV hk]; rfl
theorem qlh (vs : List Value) : mixR vs 0 = vs := by
 apply qbA
 intro k
 by_cases hk : k < vs.length
 ·rw [qeV hk, if_neg (by omega), qab, qai hk]; rfl
 ·rw [qay (by rw [qdw]; omega), qay (by omega)]
theorem mixR_end {vs : List Value} {i : Nat} (hi : vs.length ≤ i + i + 1) : mixR vs i = vs.reverse := by
 apply qbA
 intro k
 by_cases hk : k < vs.length
 ·rw [qeV hk, List.getElem?_reverse hk]
  by_cases h : k < i ∨ vs.length - 1 - i < k
  ·rw [if_pos h, qab, qai (by omega)]; rfl
  ·rw [if_neg h, show vs.length - 1 - k = k by omega, qab, qai hk]; rfl
 ·rw [qay (by rw [qdw]; omega), qay (by rw [qbN]; omega)]
theorem qlg {vs : List Value} {i : Nat} (hi : i < vs.length - 1 - i) (r : List Value) :
  (((mixR vs i ++ r).toArray.setIfInBounds i (vs.getD (vs.length - 1 - i) undef)).setIfInBounds (vs.length - 1 - i) (vs.getD i undef)) = (mixR vs (i + 1) ++ r).toArray := by
 rw [qac, qac]
 congr 1
 rw [List.set_append_left _ _ (by rw [qdw]; omega), List.set_append_left _ _ (by rw [qaO, qdw]; omega)]
 congr 1
 apply qbA
 intro k
 by_cases hk : k < vs.length
 ·rw [qeV hk]
  by_cases h1 : k = vs.length - 1 - i
  ·subst h1
   rw [qbt (by rw [qaO, qdw]; exact hk), if_pos (qav (by omega)), show vs.length - 1 - (vs.length - 1 - i) = i by omega]
  ·rw [qbB (by omega)]
   by_cases h2 : k = i
   ·subst h2
    rw [qbt (by rw [qdw]; exact hk), if_pos (qaz (by omega))]
   ·rw [qbB (by omega), qeV hk]
    by_cases h3 : k < i ∨ vs.length - 1 - i < k
    ·rw [if_pos h3, if_pos (by omega)]
    ·rw [if_neg h3, if_neg (by omega)]
 ·rw [qay (by rw [qaO, qaO, qdw]; omega), qay (by rw [qdw]; omega)]
theorem qit (v : Value) (n B : Nat) (vs : List Value) (w : World) (hn0 : 0 < n) (hn : n ≤ 1000) (h : Rws w B 23 1 v n vs) (hnn : ∀ u ∈ vs, ∃ (a : Option Addr) (m c : Nat), u = .slice a m c) :
  Calls Tryz.prog 43 #[v] w fun e w' => e = .returned (.tuple #[]) ∧ Rws w' B 23 1 v n vs.reverse ∧ w.grownBy w' v.ownBlock := by
 have hl : vs.length = n := by have := h.1; omega
 rcases h.2 with ⟨_, h0⟩ | ⟨g, cap, cur, rfl, hbg, hg, hnc, hcm, hcs, htake, hcn⟩
 ·omega
 rw [qbM] at htake hcs
 obtain ⟨r, hr⟩ : ∃ r, cur = (vs ++ r).toArray := ⟨cur.toList.drop n, by rw [← htake, qa5]⟩
 have hlr : n + r.length = cap := by rw [← hcs, hr]; simp [hl]
 have hrn : ∀ x ∈ r, qcv x := fun x hx => hcn x (by rw [hr]; simp [hx])
 have hg0 : w.heap[g]? = some (.cells (mixR vs 0 ++ r).toArray 23 (0, 0)) := by rw [qlh, ← hr]; exact hg
 have H := qH (qA hg0 (qA hl (qA hnn (qA hbg (qA hcm (qA hlr hrn))))))
 clear hr hlr hrn hg0 hg hcs htake hcn hl hnn h hbg hcm
 have e1 : (n : Int) - 1 = ((n - 1 : Nat) : Int) := by omega
 go_enter Tryz.func43, Tryz.ntmps43
 go_wp2_with fail
 clear e1
 go_loopw [2, 3] (fun x2 x3 W => ∃ i j : Nat, x2 = .int .i64 i ∧ x3 = .int .i64 j ∧ j + i + 1 = n ∧ i ≤ j + 1 ∧ Hid (W.heap[g]? = some (.cells (mixR vs i ++ r).toArray 23 (0, 0))) ∧ Hid (w.grownBy W (some g))) (fun x2 _ _ => n - (intOf x2).toNat)
 case atStart => exact ⟨0, n - 1, rfl, rfl, by omega, by omega, qH H.out.1, qH (qcI _ _)⟩
 case round =>
  obtain ⟨i, j, rfl, rfl, hj, hij, hW, hK⟩ := hrel
  by_cases hlt : i < j
  ·have hii : (i : Int) < j := by omega
   have hin : (i : Int) < n := by omega
   have hjn : (j : Int) < n := by omega
   have hij0 : i ≠ j := by omega
   have hxi : (mixR vs i ++ r).toArray[i]? = some (vs.getD i undef) := by rw [qaD, qaC (by rw [qdw, H.out.2.1]; omega), qeV (by rw [H.out.2.1]; omega), if_neg (by rw [H.out.2.1]; omega)]
   have hxj : (mixR vs i ++ r).toArray[j]? = some (vs.getD j undef) := by rw [qaD, qaC (by rw [qdw, H.out.2.1]; omega), qeV (by rw [H.out.2.1]; omega), if_neg (by rw [H.out.2.1]; omega)]
   obtain ⟨x, hx⟩ : ∃ x, vs.getD i undef = x := ⟨_, rfl⟩
   obtain ⟨y, hy⟩ : ∃ y, vs.getD j undef = y := ⟨_, rfl⟩
   rw [hx] at hxi
   rw [hy] at hxj
   have cx := (cell_of_row _ _ i _ _ _ hW.out).trans hxi
   have cy := (cell_of_row _ _ j _ _ _ hW.out).trans hxj
   have fi := frozen_of_row _ _ i _ _ hW.out
   have fj := frozen_of_row _ _ j _ _ hW.out
   obtain ⟨ax, mx, kx, rfl⟩ : ∃ (a : Option Addr) (m c : Nat), x = .slice a m c := by rw [← hx, qab, qai (by rw [H.out.2.1]; omega)]; exact H.out.2.2.1 _ (List.getElem_mem _)
   obtain ⟨ay, my, ky, rfl⟩ : ∃ (a : Option Addr) (m c : Nat), y = .slice a m c := by rw [← hy, qab, qai (by rw [H.out.2.1]; omega)]; exact H.out.2.2.1 _ (List.getElem_mem _)
   have HX := qH (qA hx hy)
   clear hx hy hxi hxj
   go_wp2_with fail
   go_region
   all_goals go_wp2_with fail
   all_goals go_roundw
   case rel =>
    refine ⟨i + 1, j - 1, by go_num, by rw [show ((j : Int) - 1) = ((j - 1 : Nat) : Int) by omega], by omega, by omega, qH ?_, qH (qb4 hK.out (qb4 (qb4 (least.qb5 wr g i (.slice ay my ky)) (least.qb5 _ g j (.slice ax mx kx))) (qb7 g qB.drew)))⟩
    have hh := heap_setCell_same _ g j _ _ (.slice ax mx kx) (heap_setCell_same _ g i _ _ (.slice ay my ky) hW.out)
    have hjl : j = vs.length - 1 - i := by rw [H.out.2.1]; omega
    have hm := qlg (vs := vs) (i := i) (by rw [H.out.2.1]; omega) r
    rw [← hjl, HX.out.1, HX.out.2] at hm
    rw [hm] at hh
    exact hh
   case measure => simp [intOf]; omega
  ·have hii : ¬ (i : Int) < j := by omega
   go_wp2_with fail
   have hm := mixR_end (vs := vs) (i := i) (by rw [H.out.2.1]; omega)
   have hh := hW.out
   rw [hm] at hh
   have hl := H.out.2.1
   have hlr := H.out.2.2.2.2.2.1
   refine bodyPost_end (results_none rfl _ _ _) rfl ⟨rfl, ⟨by rw [qbN]; omega, .inr ⟨g, cap, _, rfl, H.out.2.2.2.1, hh, hnc, H.out.2.2.2.2.1, ?_, ?_, ?_⟩⟩, hK.out⟩
   ·simp; omega
   ·rw [qbM, List.toList_toArray, List.take_append_of_le_length (by rw [qbN]; omega), qal (by rw [qbN]; omega)]
   ·intro u hu
    rw [List.toList_toArray] at hu
    rcases qa4.1 hu with h | h
    ·obtain ⟨a, m, c, rfl⟩ := H.out.2.2.1 u (List.mem_reverse.1 h)
     exact qcX _ _ _
    ·exact H.out.2.2.2.2.2.2 u h
end Go.Proofs.YtfminfgabiipjaaGreatDoor
