/- Aa, part 28: Frw Slv Tbl Lsa Lsb -/
import Derived.Test.YtfminfgabiipjaaGreatDoorAa0
import Derived.Test.YtfminfgabiipjaaGreatDoorAa26
import Derived.Test.YtfminfgabiipjaaGreatDoorAa27
set_option maxRecDepth 100000
set_option maxHeartbeats 16000000
namespace Go.Proofs.YtfminfgabiipjaaGreatDoor
open Go.RowKit
def ftxt (q : Rat) : FT := (frac.wtxt q.num, num q.den)
theorem qdS (q : Rat) : fstr q = .agg #[.string (ftxt q).1, .string (ftxt q).2] := rfl
def FRow (W : World) (g n : Nat) (l : List FT) : Prop := W.heap[g]? = some (.cells (fflat (l ++ List.replicate (n - l.length) fd0)).toArray 46 (0, 0)) ∧ l.length ≤ n
theorem FRow.below {W W' : World} {g n : Nat} {l : List FT} (h : FRow W g n l) (hb : Below W.heap.size W W') : FRow W' g n l :=
 ⟨(hb.block _ (qG h.1).1).trans h.1, h.2⟩
theorem FRow.at {W : World} {g n : Nat} {l : List FT} (h : FRow W g n l) (hk : l.length < n) : (W.cell? ⟨g, l.length * 2, none⟩ = some (.string ⟨#[]⟩) ∧ W.cell? ⟨g, l.length * 2 + 1, none⟩ = some (.string ⟨#[]⟩)) ∧ ∀ j, W.frozen? ⟨g, j, none⟩ = false := by
 have h0 : (l ++ List.replicate (n - l.length) fd0)[l.length]? = some fd0 := by
  rw [qaE qN, qaN, qbG, if_pos (by omega)]
 obtain ⟨h1, h2⟩ := qdZ _ _ _ h0
 exact ⟨⟨(cell_of_row _ _ _ _ _ _ h.1).trans ((qax ..).trans h1), (cell_of_row _ _ _ _ _ _ h.1).trans ((qax ..).trans h2)⟩, fun j => frozen_of_row _ _ _ _ _ h.1⟩
theorem FRow.set {W : World} {g n : Nat} {l : List FT} (h : FRow W g n l) (hk : l.length < n) (x : FT) :
  FRow ((W.setCell ⟨g, l.length * 2, none⟩ (.string x.1)).setCell ⟨g, l.length * 2 + 1, none⟩ (.string x.2)) g n (l ++ [x]) := by
 refine ⟨?_, by rw [qaj, qaM]; omega⟩
 rw [heap_setCell_same _ g (l.length * 2 + 1) _ _ _ (heap_setCell_same _ g (l.length * 2) _ _ _ h.1)]
 congr 3
 obtain ⟨m, hm⟩ : ∃ m, n - l.length = m + 1 := ⟨n - l.length - 1, by omega⟩
 have e1 : fflat (l ++ List.replicate (m + 1) fd0) = fflat l ++ (.string fd0.1 :: .string fd0.2 :: fflat (List.replicate m fd0)) := by
  rw [qdY, qbL]; rfl
 have e2 : fflat (l ++ [x] ++ List.replicate m fd0) = fflat l ++ (.string x.1 :: .string x.2 :: fflat (List.replicate m fd0)) := by
  rw [qdY, qdY, qaW]; rfl
 rw [qaa, qaa, hm, qaj, qaM, show n - (l.length + 1) = m by omega, e1, e2]
 rw [qbD _ _ (by rw [qcl]; exact qaf _), qcl, qaN, qad, qbD _ _ (by rw [qcl]; omega), qcl, show l.length * 2 + 1 - l.length * 2 = 1 by omega]
 rfl
theorem qlD (n : Nat) : fflat (List.replicate n fd0) = List.replicate (n * 2) (.string ⟨#[]⟩) := by
 induction n with
 | zero => rfl
 | succ n ih =>
  rw [qbL, show (n + 1) * 2 = n * 2 + 1 + 1 by omega, qbL, qbL, ← ih]; rfl
theorem qkN (n : Nat) : madeCells #[.string ⟨#[]⟩, .string ⟨#[]⟩] (n * 2) = (fflat (List.replicate n fd0)).toArray := by
 rw [qlD]
 apply Array.ext'
 apply qbw
 intro i
 rw [Array.getElem?_toList]
 show _ = (List.replicate (n * 2) (Value.string ⟨#[]⟩))[i]?
 by_cases hi : i < n * 2
 ·rw [qbG, if_pos hi]
  have hm : (madeCells #[.string ⟨#[]⟩, .string ⟨#[]⟩] (n * 2))[i]? = some ((#[.string ⟨#[]⟩, .string ⟨#[]⟩] : Array Value)[i % 2]!) := by simp [madeCells, hi]
  rw [hm]
  congr 1
  rcases (show i % 2 = 0 ∨ i % 2 = 1 by omega) with e | e <;> rw [e] <;> rfl
 ·rw [Array.getElem?_eq_none (by rw [size_madeCells]; omega), qau (by rw [qaR]; omega)]
theorem FRow.made (W : World) (n : Nat) : FRow (W.alloc (.cells (madeCells #[.string ⟨#[]⟩, .string ⟨#[]⟩] (n * 2)) 46)) W.heap.size n [] := by
 refine ⟨?_, qar _⟩
 rw [qM _ _ _ rfl, qbm, List.length_nil, Nat.sub_zero, qkN]
theorem make_frs (n : Nat) (hn : n ≤ 1048576) (w : World) : (Instr.makeSlice 23 (.int .i64 (n : Int)) (.int .i64 (n : Int))).run Tryz.prog w = .ok (.slice (some ⟨w.heap.size, 0, none⟩) n n) (w.alloc (.cells (madeCells #[.string ⟨#[]⟩, .string ⟨#[]⟩] (n * 2)) 46)) := by
 obtain ⟨i, hi, hz0, hz1, hz2⟩ := info_parts infoF
 have h := run_make (P := Tryz.prog) w 23 46 i _ Tryz.underlying23 hi hz0 .i64 .i64 (n : Int) (n : Int) (by omega) (Int.le_refl _) (by rw [hz2]; omega) (by omega)
 rw [hz1, Int.toNat_natCast] at h
 exact h
theorem FRow.cells {W : World} {g n : Nat} {l : List FT} (h : FRow W g n l) (hl : l.length = n) : FCells W (some ⟨g, 0, none⟩) g 0 l := by
 have h1 := h.1
 rw [hl, qaN, List.replicate_zero, qbl] at h1
 exact FCells.ofRow h1
theorem HasT.keepRow {W W' : World} {tb R n : Nat} {gs : Nat → Nat} (h : HasT W) (hk : W.grownBy W' (some tb)) (ht : W.heap[tb]? = some (.cells (rowvs R n gs).toArray 79 (0, 0))) : HasT W' := by
 unfold HasT Lib.TabIs World.var? at *
 cases hg : (Tryz.prog).globalNamed "internal/strconv.uint64pow10" with
 | none => simp [hg] at h
 | some g =>
  simp only [hg, Option.bind_some] at h ⊢
  have hlt : g < W.heap.size := by
   rcases qbk g W.heap.size with h' | h'
   ·exact h'
   ·rw [Array.getElem?_eq_none h'] at h; simp at h
  have hne : g ≠ tb := by
   intro e
   subst e
   rw [ht] at h
   simp only [Option.some.injEq] at h
   have h1 := congrArg (fun a : Array Value => a[0]?) h
   have h2 : ((Lib.pow10Tab.map fun z => Value.int .u64 z).toArray)[0]? = some (.int .u64 1) := rfl
   have h1 : (rowvs R n gs).toArray[0]? = (Lib.pow10Tab.map fun z => Value.int .u64 z).toArray[0]? := h1
   rw [h2, qax] at h1
   by_cases hR : 0 < R
   ·rw [qew hR] at h1; simp at h1
   ·rw [qau (by rw [qc4]; omega)] at h1; simp at h1
  rw [hk.block g hlt (fun e => hne (qan e))]
  exact h
def told (n : Nat) (x : Nat → Rat) : List FT := (List.range n).map fun i => ftxt (x i)
def qcc (n : Nat) (x : Nat → Rat) : Prop := ∀ i, i < n → Short (x i)
theorem qcc.snoc {n : Nat} {x : Nat → Rat} (h : qcc n x) (hs : Short (x n)) : qcc (n + 1) x := fun j hj => by
 by_cases e : j = n
 ·rw [e]; exact hs
 ·exact h j (by omega)
theorem qf2 (n : Nat) (x : Nat → Rat) : told (n + 1) x = told n x ++ [ftxt (x n)] := by
 unfold told; rw [List.range_succ, qbx]; rfl
theorem qb2 (n : Nat) (x : Nat → Rat) : (told n x).length = n := by unfold told; rw [qaG, qbd]
def FOne (W2 W : World) (g : Nat) (x : FT) : Prop := W.heap[g]? = some (.cells #[.string x.1, .string x.2] 46 (0, 0)) ∧ Below W2.heap.size W2 W ∧ W2.heap.size ≤ g
theorem qj0 {W2 W : World} {x1 x2 : ByteArray} (hb : Below W2.heap.size W2 W) : FOne W2 (W.alloc (.cells #[.string x1, .string x2] 46)) W.heap.size (x1, x2) :=
 ⟨qM _ _ _ rfl, qb1 hb qN, hb.size⟩
theorem qiI {W2 W : World} {g : Nat} {x1 x2 : ByteArray} {c0 c1 : Value} (hb : Below W2.heap.size W2 W) (hg : W2.heap.size ≤ g) (hz : W.heap[g]? = some (.cells #[c0, c1] 46 (0, 0))) :
  FOne W2 ((W.setCell ⟨g, 0, none⟩ (.string x1)).setCell ⟨g, 1, none⟩ (.string x2)) g (x1, x2) :=
 ⟨heap_setCell_same _ g 1 _ _ _ (heap_setCell_same _ g 0 _ _ _ hz), (hb.setCell (p := ⟨g, 0, none⟩) hg _).setCell (p := ⟨g, 1, none⟩) hg _, hg⟩
theorem qc5 {w w' : World} {q : Rat} {e : Ending} (h : qfq w q e w') : ∃ (x1 x2 : ByteArray) (c : Int), e = .returned (.tuple #[.agg #[.string x1, .string x2], .int .i64 c]) ∧ (Short q ∧ (x1, x2) = ftxt q ∧ c = 0 ∨ ¬ Short q ∧ (x1, x2) = fd0 ∧ c = 6) ∧ Below w.heap.size w w' := by
 obtain ⟨h | h, hb⟩ := h
 ·exact ⟨(ftxt q).1, (ftxt q).2, 0, h.2, qaA ⟨h.1, rfl, rfl⟩, hb⟩
 ·exact ⟨_, _, 6, h.2, qas ⟨h.1, rfl, rfl⟩, hb⟩
def Tells (n : Nat) (x : Nat → Rat) (e : Ending) (w' : World) : Prop :=
 (qcc n x ∧ ∃ g, e = .returned (.tuple #[.slice (some ⟨g, 0, none⟩) n n, .int .i64 0]) ∧ FCells w' (some ⟨g, 0, none⟩) g 0 (told n x)) ∨
 (¬ qcc n x ∧ e = .returned (.tuple #[.slice none 0 0, .int .i64 6]))
def SolvesAs (w : World) (tb R : Nat) (A : Nat → Nat → Int) (e : Ending) (w' : World) : Prop :=
 w.grownBy w' (some tb) ∧ ((Sing R (castM A) ∧ e = .returned (.tuple #[.slice none 0 0, .int .i64 7])) ∨
  (¬ Sing R (castM A) ∧ ∃ x, qcA R (castM A) (fun i => castM A i R) x ∧ Tells R x e w'))
theorem fit_pos {z : Int} {K : Nat} (h : Fit z.natAbs K) (hz : z ≠ 0) : 0 < K := by
 rcases qaH K with e | e
 ·subst e
  have : z.natAbs < 1 := h
  omega
 ·exact e
theorem qgY (a b : Int) : Rat.divInt a b = (a : Rat) / b := Rat.divInt_eq_div a b
theorem qi8 (tb R K : Nat) (gs : Nat → Nat) (A : Nat → Nat → Int) (w : World) (hR0 : 0 < R) (hR : R ≤ 10) (hK : K ≤ 33554430) (hK0 : 0 < K) (hM : MatAt w tb R (R + 1) gs A) (hgs : ∀ i, i < R → gs i < w.heap.size) (hF : ∀ i, i < R → ∀ j, j < R + 1 → Fit (A i j).natAbs K) (hT : HasT w) :
  Calls Tryz.prog 56 #[.agg #[.slice (some ⟨tb, 0, none⟩) R R]] w fun e w' => SolvesAs w tb R A e w' := by
 have HM := qH (qA hM (qA hgs hF))
 have HT := qH hT
 have htb : tb < w.heap.size := (qG hM.row).1
 have hR0i : (0 : Int) < R := by omega
 have hb0 : Below w.heap.size w (w.alloc (.cells #[.slice (some ⟨tb, 0, none⟩) R R] 92)) := qb1 qB qN
 have HE := qH (elim_any tb R (R + 1) K gs A (w.alloc (.cells #[.slice (some ⟨tb, 0, none⟩) R R] 92)) hR0 hR (by omega) (by omega) hK hK0 (hM.below hb0) (fun i hi => qak (hgs i hi) hb0.size) hF)
 have HB0 := qH hb0
 have hfi := qfD
 clear hM hF hgs hT hb0
 go_enter Tryz.func56, Tryz.ntmps56
 go_wp2_with fail
 refine HE.out.mono ?_
 rintro e w2 ⟨v, z, rfl, hv, hg2, hz⟩
 obtain ⟨a, m, d, b, rfl⟩ := least.qb8 hv
 have hmt := (HM.out.1.below HB0.out)
 have hT2 := (HT.out.below HB0.out).keepRow hg2 hmt.row
 have hg := qca (qcd tb HB0.out) hg2
 have hz1 := least.qdc z.natAbs (.slice a m d)
 have Hv := qH hv
 have HX := qH (qA hT2 (qA hg hg2))
 have hm2 : MagAt w2 (.slice a m d) z.natAbs := by
  obtain ⟨_, e, h⟩ := hv
  simp only [qba, qbg, qa5] at e
  rw [e.1]; exact h
 have hal : Below w2.heap.size w2 (w2.alloc (.cells #[.slice a m d, .bool b] 105)) := qb1 qB qN
 have HZ := qH (hz1 _ (hm2.below hal))
 have HAL := qH hal
 have hs2 : (w2.alloc (.cells #[.slice a m d, .bool b] 105)).heap.size = w2.heap.size + 1 := by rw [qab]
 have hsb : w.heap.size < w2.heap.size := by have := hg2.size; rw [qab] at this; omega
 have hbox : w2.heap[w.heap.size]? = some (.cells #[.slice (some ⟨tb, 0, none⟩) R R] 92 (0, 0)) := (hg2.block _ (by rw [qab]; omega) (fun e => qby _ (qan e ▸ htb))).trans (qM _ _ _ rfl)
 have HBX := qH hbox
 have bx0 := cell_of_row _ _ 0 _ _ _ hbox
 clear hv hg2 hmt hT2 hg hz1 hm2 hal hs2 hbox
 go_wp2_with fail
 obtain ⟨W3, hW3⟩ : ∃ W3, W3 = w2.alloc (.cells #[.slice a m d, .bool b] 105) := ⟨_, rfl⟩
 rw [← hW3] at HZ HAL ⊢
 have hg3 : Hid (w.grownBy W3 (some tb)) := qH (qdh HX.out.2.1 HAL.out)
 rcases hz with ⟨hz0, k, D, M, hk, hS, h0⟩ | ⟨hfz, gs', M, hMt, hS, hfM⟩
 ·refine HZ.out.mono ?_
  rintro e w4 ⟨rfl, hw⟩
  rw [decide_eq_true (show z.natAbs = 0 by omega)]
  have HS := qH (qiG hS (by omega) hk h0)
  subst hw
  clear hS h0 hz0 hW3
  go_wp2_with fail
  go_ret2
  exact ⟨hg3.out, qaA ⟨HS.out, rfl⟩⟩
 ·refine HZ.out.mono ?_
  rintro e w4 ⟨rfl, hw⟩
  have hz0 := hS.nz
  rw [decide_eq_false (show ¬ z.natAbs = 0 by omega)]
  have hmk := make_frs R (by omega) W3
  obtain ⟨W5, hW5⟩ : ∃ W5, W5 = W3.alloc (.cells (madeCells #[.string ⟨#[]⟩, .string ⟨#[]⟩] (R * 2)) 46) := ⟨_, rfl⟩
  rw [← hW5] at hmk
  have hfr : FRow W5 W3.heap.size R [] := hW5 ▸ FRow.made W3 R
  have hb5 : Below W3.heap.size W3 W5 := hW5 ▸ qb1 qB qN
  clear hW5
  have hr3 : W3.heap[w2.heap.size]? = some (.cells #[.slice a m d, .bool b] 105 (0, 0)) := by rw [hW3]; exact qM _ _ _ rfl
  have hbx3 := (HAL.out.block _ (by exact hsb)).trans HBX.out
  have hbx5 := (hb5.block _ (qG hbx3).1).trans hbx3
  have bx5 := cell_of_row _ _ 0 _ _ _ hbx5
  have H5 := qH (qA hfr (qA hb5 hbx5))
  have HS := qH (qA hfz (qA (hMt.below HAL.out) (qA hS hfM)))
  have H3 := qH (qA hr3 (qA hbx3 (qA (Hv.out.below HAL.out) (HX.out.1.below HAL.out))))
  have Hz0 := qH hz0
  have hs3 : W3.heap.size = w2.heap.size + 1 := by rw [hW3, qab]
  have Hs3 := qH hs3
  subst hw
  clear hS hz0 hW3 hMt hfM hfz hr3 hbx3 bx0 hs3 hfr hb5 hbx5
  have bx4 := cell_of_row _ _ 0 _ _ _ H3.out.2.1
  go_wp2_with fail
  go_loopw [26] (fun x26 W => ∃ (i : Nat), i ≤ R ∧ x26 = .int .i64 i ∧ Hid (qcc i (fun i => (M i R : Rat) / z)) ∧ Hid (FRow W w4.heap.size R (told i (fun i => (M i R : Rat) / z))) ∧ Hid (Below w4.heap.size w4 W)) (fun x26 _ => R - (intOf x26).toNat)
  case atStart => exact ⟨0, qar _, rfl, qH (fun i hi => absurd hi (by omega)), qH H5.out.1, qH H5.out.2.1⟩
  case round =>
   obtain ⟨i, hiR, rfl, hA, hF, hB⟩ := hrel
   by_cases hi : i < R
   ·have hii : (i : Int) < R := by omega
    have hRi : (R : Int) < R + 1 := by omega
    have hMr := HS.out.2.1.below hB.out
    obtain ⟨ci, fi⟩ := hMr.cell hi
    obtain ⟨a2, m2, d2, b2, p0, p1, hin⟩ := (hMr.rows i hi).pair (show R < R + 1 by omega)
    have hr := (hB.out.block _ (qG H3.out.1).1).trans H3.out.1
    have hbx := (hB.out.block _ (qG H3.out.2.1).1).trans H3.out.2.1
    have C0 : ∀ W, Below wr.heap.size wr W → W.cell? ⟨w.heap.size, 0, none⟩ = some (.slice (some ⟨tb, 0, none⟩) R R) := fun W h => (h.cell (p := ⟨w.heap.size, 0, none⟩) (qG hbx).1).trans (cell_of_row _ _ 0 _ _ _ hbx)
    have C1 : ∀ W, Below wr.heap.size wr W → W.cell? ⟨gs' i, R * 2, none⟩ = some (.slice a2 m2 d2) := fun W h => (h.cell (qag wr _ p0)).trans p0
    have C2 : ∀ W, Below wr.heap.size wr W → W.cell? ⟨gs' i, R * 2 + 1, none⟩ = some (.bool b2) := fun W h => (h.cell (qag wr _ p1)).trans p1
    have C3 : ∀ W, Below wr.heap.size wr W → W.cell? ⟨w2.heap.size, 0, none⟩ = some (.slice a m d) := fun W h => (h.cell (p := ⟨w2.heap.size, 0, none⟩) (qG hr).1).trans (cell_of_row _ _ 0 _ _ _ hr)
    have C4 : ∀ W, Below wr.heap.size wr W → W.cell? ⟨w2.heap.size, 1, none⟩ = some (.bool b) := fun W h => (h.cell (p := ⟨w2.heap.size, 1, none⟩) (qG hr).1).trans (cell_of_row _ _ 1 _ _ _ hr)
    have hvi := H3.out.2.2.1.below hB.out
    have hTi := H3.out.2.2.2.below hB.out
    have hfR := HS.out.2.2.2 i hi R (by omega)
    have HW := qH (fun W (h : Below wr.heap.size wr W) => qhK (M i R) z Hz0.out (KK K R) (fit_pos HS.out.1 Hz0.out) (KK_le hK hR) _ _ W (hin.below h) (hvi.below h) hfR HS.out.1 (hTi.below h))
    have hst : Below wr.heap.size wr wr := Below.refl _ _
    have hstD : Below wr.heap.size wr wr.drew := hst.drew
    have hstA : Below wr.heap.size wr (wr.alloc (.cells #[.string ⟨#[]⟩, .string ⟨#[]⟩] 46)).drew := (qb1 hst qN).drew
    have hFr := hF.out.at (by rw [qb2]; exact hi)
    have HF := qH hFr
    clear hMr hin p0 p1 hr hbx hvi hTi hfR hFr bx4 bx5 hmk
    go_wp2_with fail
    go_cut [9, 10] (fun x9 x10 W => ∃ (g9 : Nat) (x1 x2 : ByteArray) (c : Int), x9 = .pointer (some ⟨g9, 0, none⟩) ∧ x10 = .int .i64 c ∧ Hid (Short (Rat.divInt (M i R) z) ∧ (x1, x2) = ftxt (Rat.divInt (M i R) z) ∧ c = 0 ∨ ¬ Short (Rat.divInt (M i R) z) ∧ (x1, x2) = fd0 ∧ c = 6) ∧ FOne wr W g9 (x1, x2))
    case first =>
     go_region_held3 (fun W => Below wr.heap.size wr W) (first | with_reducible exact hst | with_reducible exact hstD | with_reducible exact hstA | with_reducible exact HB6 | exact qb1 HB6 qN | exact (HB6.setCell qN _).setCell qN _ | exact (HB6.setCell HB6.size _).setCell HB6.size _) (first | (go_at_call 76; refine (HW.out _ (by first | with_reducible exact hstD | with_reducible exact hstA)).mono ?_; rintro e w6 hx; obtain ⟨x1, x2, c6, rfl, hx, hb6⟩ := qc5 hx; have HB6 : Below wr.heap.size wr w6 := bjoin (by first | with_reducible exact hstD | with_reducible exact hstA) hb6; have HX6 := qH hx; obtain ⟨k6, k6f⟩ := bcell hb6; have Z6 := qH (zkeep hb6); clear hx hb6))
     all_goals go_wp2_with fail
     all_goals go_meet
     all_goals refine ⟨_, x1, x2, c6, rfl, rfl, HX6, ?_⟩
     all_goals first
      | with_reducible exact qj0 HB6
      | exact qiI HB6 qN (Z6.out _ _ (qM _ _ _ rfl))
    case rest =>
     obtain ⟨g9, x1, x2, c, rfl, rfl, hx, ho⟩ := hcut
     obtain ⟨ho1, hob, hog⟩ := ho
     have o0 := cell_of_row _ _ 0 _ _ _ ho1
     have o1 := cell_of_row _ _ 1 _ _ _ ho1
     have hFc := hF.out.below hob
     have hat := hFc.at (by rw [qb2]; exact hi)
     have hset := hFc.set (by rw [qb2]; exact hi) (x1, x2)
     rw [qb2] at hat hset
     obtain ⟨⟨q0, q1⟩, qf⟩ := hat
     have qf0 := qf (i * 2)
     have qf1 := qf (i * 2 + 1)
     have hbe := ((hB.out.trans (hob.mono hB.out.size)).setCell (p := ⟨w4.heap.size, i * 2, none⟩) qN (.string x1)).setCell (p := ⟨w4.heap.size, i * 2 + 1, none⟩) qN (.string x2)
     have hbw := hB.out.trans (hob.mono hB.out.size)
     have HQ := qH (qA hset (qA hbe hbw))
     have HX := qH hx.out
     have hq := qgY (M i R) z
     clear hset hbe hbw ho1 hFc qf C0 C1 C2 C3 C4 ci fi
     rcases hx.out with ⟨hsh, hxt, rfl⟩ | ⟨hsh, hxt, rfl⟩
     ·rw [hq] at hsh hxt
      have HS2 := qH (qA hsh hxt)
      clear hsh hxt hq
      go_wp2_with fail
      go_roundw
      case rel => exact ⟨i + 1, hi, by go_num, qH (hA.out.snoc HS2.out.1), qH (by rw [qf2, ← HS2.out.2]; exact HQ.out.1), qH HQ.out.2.1⟩
      case measure => simp [intOf]; omega
     ·rw [hq] at hsh
      have HS2 := qH hsh
      clear hsh hxt hq
      go_wp2_with fail
      go_ret2
      exact ⟨qdh hg3.out HQ.out.2.2, qas ⟨(qfB HS.out.2.2.1).2, _, (qfB HS.out.2.2.1).1, qas ⟨fun h => HS2.out (h i hi), rfl⟩⟩⟩
   ·obtain rfl : i = R := by omega
    have hfc := hF.out.cells (qb2 _ _)
    have HFC := qH hfc
    clear hfc
    go_wp2_with fail
    go_ret2
    exact ⟨qdh hg3.out hB.out, qas ⟨(qfB HS.out.2.2.1).2, _, (qfB HS.out.2.2.1).1, qaA ⟨hA.out, _, rfl, HFC.out⟩⟩⟩
abbrev Tbl := List (List FT)
structure TCells (W : World) (ao : Option Addr) (b off : Nat) (t : Tbl) : Prop where
 addr : 0 < t.length → ao = some ⟨b, off, none⟩
 row : ∀ k, k < t.length → ∃ (ra : Option Addr) (rb ro rc : Nat), W.cell? ⟨b, off + k, none⟩ = some (.slice ra (t.getD k []).length rc) ∧ FCells W ra rb ro (t.getD k [])
theorem TCells.below {W W' : World} {ao : Option Addr} {b off : Nat} {t : Tbl} (h : TCells W ao b off t) (hb : Below W.heap.size W W') : TCells W' ao b off t :=
 ⟨h.addr, fun k hk => by
  obtain ⟨ra, rb, ro, rc, h1, h2⟩ := h.row k hk
  exact ⟨ra, rb, ro, rc, (hb.cell (qag W _ h1)).trans h1, h2.below hb⟩⟩
def wid (t : Tbl) : Nat := (t.getD 0 []).length
structure TOk (t : Tbl) : Prop where
 r1 : 1 ≤ t.length
 r2 : t.length ≤ 40
 c1 : 1 ≤ wid t
 c2 : wid t ≤ 10
 rows : ∀ k, k < t.length → (t.getD k []).length = wid t ∧ FAll (t.getD k [])
theorem qgW (ao : Option Addr) (b off R c : Nat) (t : Tbl) (w : World) (hR : t.length = R) (hl : R ≤ 4611686018427387904) (hw : ∀ k, k < R → (t.getD k []).length ≤ 4611686018427387904) (hc : TCells w ao b off t) :
  Calls Tryz.prog 12 #[.slice ao R c] w fun e w' => qhX w (TOk t) 60 e w' := by
 have HC := qH (qA hc (qA hR hw))
 by_cases h1 : 1 ≤ R
 case neg =>
  have hlt : (R : Int) < 1 := by omega
  clear hc hR
  go_enter Tryz.func12, Tryz.ntmps12
  go_wp2_with fail
  go_ret
  exact ⟨60, rfl, qas ⟨rfl, fun h => by have := h.r1; have := HC.out.2.1; omega⟩, Below.refl _ _⟩
 have h1i : ¬ (R : Int) < 1 := by omega
 by_cases h2 : R ≤ 40
 case neg =>
  have hlt : (40 : Int) < R := by omega
  clear hc hR
  go_enter Tryz.func12, Tryz.ntmps12
  go_wp2_with fail
  go_ret
  exact ⟨60, rfl, qas ⟨rfl, fun h => by have := h.r2; have := HC.out.2.1; omega⟩, Below.refl _ _⟩
 have h2i : ¬ (40 : Int) < R := by omega
 have h0i : (0 : Int) < R := by omega
 have haw := hc.addr (by omega)
 subst haw
 obtain ⟨ra0, rb0, ro0, rc0, hc0, _⟩ := hc.row 0 (by omega)
 rw [qbh] at hc0
 obtain ⟨n, hn⟩ : ∃ n, wid t = n := ⟨_, rfl⟩
 have hn' : (t.getD 0 []).length = n := hn
 have hnl := hw 0 (by omega)
 rw [hn'] at hc0 hnl
 have HN := qH hn
 have hw0 : b < w.heap.size := qag w _ hc0
 clear hc hR hn hn' hw
 by_cases h3 : 1 ≤ n
 case neg =>
  have hlt : (n : Int) < 1 := by omega
  go_enter Tryz.func12, Tryz.ntmps12
  go_wp2_with fail
  go_ret
  exact ⟨60, rfl, qas ⟨rfl, fun h => by have := h.c1; have := HN.out; omega⟩, Below.refl _ _⟩
 have h3i : ¬ (n : Int) < 1 := by omega
 by_cases h4 : n ≤ 10
 case neg =>
  have hlt : (10 : Int) < n := by omega
  go_enter Tryz.func12, Tryz.ntmps12
  go_wp2_with fail
  go_ret
  exact ⟨60, rfl, qas ⟨rfl, fun h => by have := h.c2; have := HN.out; omega⟩, Below.refl _ _⟩
 have h4i : ¬ (10 : Int) < n := by omega
 go_enter Tryz.func12, Tryz.ntmps12
 go_wp2_with fail
 go_loopw [31] (fun x31 W => ∃ k : Nat, k ≤ R ∧ x31 = .int .i64 k ∧ Hid (∀ i, i < k → (t.getD i []).length = n ∧ FAll (t.getD i [])) ∧ Hid (Below w.heap.size w W)) (fun x31 _ => R - (intOf x31).toNat)
 case atStart => exact ⟨0, qar _, rfl, qH (fun i hi => absurd hi (by omega)), qH qB⟩
 case round =>
  obtain ⟨k, hk, rfl, hI, hB⟩ := hrel
  by_cases hkR : k < R
  ·have hki : (k : Int) < R := by omega
   have hcr := (hB.out.cell (p := ⟨b, off, none⟩) hw0).trans hc0
   obtain ⟨ra, rb, ro, rc, hck, hfk⟩ := (HC.out.1.below hB.out).row k (by have := HC.out.2.1; omega)
   have HF := qH hfk
   obtain ⟨row, hrow⟩ : ∃ row, t.getD k [] = row := ⟨_, rfl⟩
   obtain ⟨l, hl2⟩ : ∃ l, row.length = l := ⟨_, rfl⟩
   have hll := HC.out.2.2 k hkR
   rw [hrow] at hck HF hll
   rw [hl2] at hck hll
   have HR := qH (qA hrow hl2)
   clear hrow hl2 hfk
   by_cases hln : l = n
   case neg =>
    have hne : ((l : Int) != (n : Int)) = true := by rw [bne_iff_ne]; omega
    have HL := qH hln
    clear hln
    go_wp2_with fail
    go_ret
    exact ⟨60, rfl, qas ⟨rfl, fun h => HL.out (by rw [← HR.out.2, ← HR.out.1, ← HN.out]; exact (h.rows k (by have := HC.out.2.1; omega)).1)⟩, hB.out⟩
   have hne : ((l : Int) != (n : Int)) = false := by simp [hln]
   have HL := qH hln
   clear hln
   obtain ⟨wo, hwo⟩ : ∃ wo : World, wo = wr := ⟨_, rfl⟩
   subst hwo
   go_wp2_with fail
   go_loopw [44] (fun x44 W => ∃ j : Nat, j ≤ l ∧ x44 = .int .i64 j ∧ Hid (∀ i, i < j → FOk (row.getD i fd0).1.data.toList (row.getD i fd0).2.data.toList) ∧ Hid (Below wo.heap.size wo W)) (fun x44 _ => l - (intOf x44).toNat)
   case atStart => exact ⟨0, qar _, rfl, qH (fun i hi => absurd hi (by omega)), qH qB⟩
   case round =>
    obtain ⟨j, hj, rfl, hJ, hB2⟩ := hrel
    by_cases hjl : j < l
    ·have hji : (j : Int) < l := by omega
     have har := HF.out.addr (by have := HR.out.2; omega)
     subst har
     obtain ⟨d0, d1⟩ := (HF.out.below hB2.out).cell j (by have := HR.out.2; omega)
     obtain ⟨N, hN⟩ : ∃ N, (row.getD j fd0).1 = N := ⟨_, rfl⟩
     obtain ⟨D, hD⟩ : ∃ D, (row.getD j fd0).2 = D := ⟨_, rfl⟩
     rw [hN] at d0
     rw [hD] at d1
     have HX := qH (qA hN hD)
     clear hN hD
     go_wp2_with fail
     refine (qhC N D _).mono ?_
     rintro e w2 ⟨cc, rfl, hcc, hb2⟩
     have HB2 := qH (hB2.out.trans ((qB.alloc qN _ |>.trans (hb2.mono (by simp only [qab]; omega))).mono hB2.out.size))
     clear hb2
     rcases hcc with ⟨rfl, hf⟩ | ⟨rfl, hf⟩
     ·have Hf := qH hf
      clear hf
      go_wp2_with fail
      go_roundw
      case rel => exact ⟨j + 1, hjl, by go_num, qH (fun i hi => by
       rcases (show i < j ∨ i = j by omega) with h | h
       ·exact hJ.out i h
       ·rw [h, HX.out.1, HX.out.2]; exact Hf.out), HB2⟩
      case measure => simp [intOf]; omega
     ·have Hf := qH hf
      clear hf
      go_wp2_with fail
      go_ret
      exact ⟨60, rfl, qas ⟨rfl, fun h => Hf.out (by
       have := (h.rows k (by have := HC.out.2.1; omega)).2 j (by rw [HR.out.1, HR.out.2]; exact hjl)
       rw [HR.out.1, HX.out.1, HX.out.2] at this
       exact this)⟩, hB.out.trans (HB2.out.mono hB.out.size)⟩
    ·obtain rfl : j = l := by omega
     go_wp2_with fail
     go_roundw
     case rel => exact ⟨k + 1, hkR, by go_num, qH (fun i hi => by
      rcases (show i < k ∨ i = k by omega) with h | h
      ·exact hI.out i h
      ·rw [h, HR.out.1, HR.out.2]; exact ⟨HL.out, fun x hx => hJ.out x (by rw [← HR.out.2]; exact hx)⟩), qH (hB.out.trans (hB2.out.mono hB.out.size))⟩
     case measure => simp [intOf]; omega
  ·obtain rfl : k = R := by omega
   go_wp2_with fail
   go_ret
   exact ⟨0, rfl, qaA ⟨rfl, ⟨by have := HC.out.2.1; omega, by have := HC.out.2.1; omega, by rw [HN.out]; exact h3, by rw [HN.out]; exact h4, fun i hi => by rw [HN.out]; exact hI.out i (by have := HC.out.2.1; omega)⟩⟩, hB.out⟩
def CLAs (w : World) (t L : Tbl) (e : Ending) (w' : World) : Prop :=
 ∃ c : Int, e = .returned (.int .i64 c) ∧ (c = 60 ∧ ¬ TOk t ∨ c = 20 ∧ TOk t ∧ ¬ (∀ k, k < L.length → FAll (L.getD k [])) ∨ c = 0 ∧ TOk t ∧ ∀ k, k < L.length → FAll (L.getD k [])) ∧ Below w.heap.size w w'
theorem qeh (ao : Option Addr) (b off R c : Nat) (t : Tbl) (ao2 : Option Addr) (b2 off2 R2 c2 : Nat) (L : Tbl) (w : World) (hR : t.length = R) (hl : R ≤ 4611686018427387904) (hw : ∀ k, k < R → (t.getD k []).length ≤ 4611686018427387904) (hc : TCells w ao b off t)
  (hR2 : L.length = R2) (hl2 : R2 ≤ 4611686018427387904) (hw2 : ∀ k, k < R2 → (L.getD k []).length ≤ 4611686018427387904) (hc2 : TCells w ao2 b2 off2 L) :
  Calls Tryz.prog 54 #[.slice ao R c, .slice ao2 R2 c2] w fun e w' => CLAs w t L e w' := by
 have HK := qH (qgW ao b off R c t w hR hl hw hc)
 have HL := qH (qA hc2 (qA hR2 hw2))
 clear hR hw hc hR2 hw2 hc2
 go_enter Tryz.func54, Tryz.ntmps54
 go_wp2_with fail
 refine HK.out.mono ?_
 rintro e w2 ⟨cc, rfl, hcc, hb2⟩
 have HB := qH hb2
 clear hb2
 rcases hcc with ⟨rfl, hT⟩ | ⟨rfl, hT⟩
 case inr =>
  have HT := qH hT
  clear hT
  go_wp2_with fail
  go_ret
  exact ⟨60, rfl, qaA ⟨rfl, HT.out⟩, HB.out⟩
 have HT := qH hT
 clear hT
 go_wp2_with fail
 go_loopw [17] (fun x17 W => ∃ k : Nat, k ≤ R2 ∧ x17 = .int .i64 k ∧ Hid (∀ i, i < k → FAll (L.getD i [])) ∧ Hid (Below w.heap.size w W)) (fun x17 _ => R2 - (intOf x17).toNat)
 case atStart => exact ⟨0, qar _, rfl, qH (fun i hi => absurd hi (by omega)), HB⟩
 case round =>
  obtain ⟨k, hk, rfl, hI, hB⟩ := hrel
  by_cases hkR : k < R2
  ·have hki : (k : Int) < R2 := by omega
   have haw := HL.out.1.addr (by have := HL.out.2.1; omega)
   subst haw
   obtain ⟨ra, rb, ro, rc, hck, hfk⟩ := (HL.out.1.below hB.out).row k (by have := HL.out.2.1; omega)
   have HF := qH hfk
   obtain ⟨row, hrow⟩ : ∃ row, L.getD k [] = row := ⟨_, rfl⟩
   obtain ⟨l, hl2⟩ : ∃ l, row.length = l := ⟨_, rfl⟩
   have hll := HL.out.2.2 k hkR
   rw [hrow] at hck HF hll
   rw [hl2] at hck hll
   have HR := qH (qA hrow hl2)
   clear hrow hl2 hfk
   obtain ⟨wo, hwo⟩ : ∃ wo : World, wo = wr := ⟨_, rfl⟩
   subst hwo
   go_wp2_with fail
   go_loopw [23] (fun x23 W => ∃ j : Nat, j ≤ l ∧ x23 = .int .i64 j ∧ Hid (∀ i, i < j → FOk (row.getD i fd0).1.data.toList (row.getD i fd0).2.data.toList) ∧ Hid (Below wo.heap.size wo W)) (fun x23 _ => l - (intOf x23).toNat)
   case atStart => exact ⟨0, qar _, rfl, qH (fun i hi => absurd hi (by omega)), qH qB⟩
   case round =>
    obtain ⟨j, hj, rfl, hJ, hB2⟩ := hrel
    by_cases hjl : j < l
    ·have hji : (j : Int) < l := by omega
     have har := HF.out.addr (by have := HR.out.2; omega)
     subst har
     obtain ⟨d0, d1⟩ := (HF.out.below hB2.out).cell j (by have := HR.out.2; omega)
     obtain ⟨N, hN⟩ : ∃ N, (row.getD j fd0).1 = N := ⟨_, rfl⟩
     obtain ⟨D, hD⟩ : ∃ D, (row.getD j fd0).2 = D := ⟨_, rfl⟩
     rw [hN] at d0
     rw [hD] at d1
     have HX := qH (qA hN hD)
     clear hN hD
     go_wp2_with fail
     refine (qhC N D _).mono ?_
     rintro e w2 ⟨cc, rfl, hcc, hb2⟩
     have HB2 := qH (hB2.out.trans ((qB.alloc qN _ |>.trans (hb2.mono (by simp only [qab]; omega))).mono hB2.out.size))
     clear hb2
     rcases hcc with ⟨rfl, hf⟩ | ⟨rfl, hf⟩
     ·have Hf := qH hf
      clear hf
      go_wp2_with fail
      go_roundw
      case rel => exact ⟨j + 1, hjl, by go_num, qH (fun i hi => by
       rcases (show i < j ∨ i = j by omega) with h | h
       ·exact hJ.out i h
       ·rw [h, HX.out.1, HX.out.2]; exact Hf.out), HB2⟩
      case measure => simp [intOf]; omega
     ·have Hf := qH hf
      clear hf
      go_wp2_with fail
      go_ret
      exact ⟨20, rfl, qas (qaA ⟨rfl, HT.out, fun h => Hf.out (by
       have := h k (by have := HL.out.2.1; omega) j (by rw [HR.out.1, HR.out.2]; exact hjl)
       rw [HR.out.1, HX.out.1, HX.out.2] at this
       exact this)⟩), hB.out.trans (HB2.out.mono hB.out.size)⟩
    ·obtain rfl : j = l := by omega
     go_wp2_with fail
     go_roundw
     case rel => exact ⟨k + 1, hkR, by go_num, qH (fun i hi => by
      rcases (show i < k ∨ i = k by omega) with h | h
      ·exact hI.out i h
      ·rw [h, HR.out.1]; exact fun x hx => hJ.out x (by rw [← HR.out.2]; exact hx)), qH (hB.out.trans (hB2.out.mono hB.out.size))⟩
     case measure => simp [intOf]; omega
  ·obtain rfl : k = R2 := by omega
   go_wp2_with fail
   go_ret
   exact ⟨0, rfl, qas (qas ⟨rfl, HT.out, fun i hi => hI.out i (by have := HL.out.2.1; omega)⟩), hB.out⟩
def Neg (l : List FT) : Prop := ∃ k, k < l.length ∧ ival (l.getD k fd0).1.data.toList < 0
def NegAs (w : World) (l : List FT) (e : Ending) (w' : World) : Prop := ∃ x : Bool, e = .returned (.bool x) ∧ (x = true ↔ Neg l) ∧ Below w.heap.size w w'
theorem qgy (ao : Option Addr) (b off n c : Nat) (l : List FT) (w : World) (hn : l.length = n) (hl : n ≤ 4611686018427387904) (hc : FCells w ao b off l) (hf : FAll l) :
  Calls Tryz.prog 61 #[.slice ao n c] w fun e w' => NegAs w l e w' := by
 have HF := qH (qA hc (qA hn hf))
 have hfi := qfD
 clear hc hn hf
 go_enter Tryz.func61, Tryz.ntmps61
 go_wp2_with fail
 go_loopw [7] (fun x7 W => ∃ j : Nat, j ≤ n ∧ x7 = .int .i64 j ∧ Hid (∀ i, i < j → 0 ≤ ival (l.getD i fd0).1.data.toList) ∧ Hid (Below w.heap.size w W)) (fun x7 _ => n - (intOf x7).toNat)
 case atStart => exact ⟨0, qar _, rfl, qH (fun i hi => absurd hi (by omega)), qH qB⟩
 case round =>
  obtain ⟨j, hj, rfl, hJ, hB2⟩ := hrel
  by_cases hjl : j < n
  ·have hji : (j : Int) < n := by omega
   have har := HF.out.1.addr (by have := HF.out.2.1; omega)
   subst har
   obtain ⟨d0, d1⟩ := (HF.out.1.below hB2.out).cell j (by have := HF.out.2.1; omega)
   have hok := (HF.out.2.2 j (by have := HF.out.2.1; omega)).vn
   obtain ⟨N, hN⟩ : ∃ N, (l.getD j fd0).1 = N := ⟨_, rfl⟩
   obtain ⟨D, hD⟩ : ∃ D, (l.getD j fd0).2 = D := ⟨_, rfl⟩
   rw [hN] at d0 hok
   rw [hD] at d1
   have HX := qH (qA hN hok)
   clear hN hD hok
   go_wp2_with fail
   refine (least.qcO N HX.out.2 _).mono ?_
   rintro e w2 ⟨v2, rfl, hb2, hv2⟩
   have HB2 := qH (hB2.out.trans ((qB.alloc qN _ |>.trans (hb2.mono (by simp only [qab]; omega))).mono hB2.out.size))
   obtain ⟨m2, rfl, hg2⟩ := hv2
   have hfb : ∀ b W, (Instr.field 105 (.agg #[m2, .bool b]) 1).run Tryz.prog W = .ok (.bool b) W := by
    obtain ⟨_, _, _, _, _, _, rfl, _, _⟩ := hg2
    intro b W; kernel_rfl
   clear hb2 hg2
   by_cases hz : ival N.data.toList < 0
   ·rw [decide_eq_true hz]
    have HZ := qH hz
    clear hz
    go_wp2_with fail
    go_ret
    exact ⟨true, rfl, ⟨fun _ => ⟨j, by have := HF.out.2.1; omega, by rw [HX.out.1]; exact HZ.out⟩, fun _ => rfl⟩, HB2.out⟩
   ·rw [decide_eq_false hz]
    have HZ := qH (Int.not_lt.1 hz)
    clear hz
    go_wp2_with fail
    go_roundw
    case rel => exact ⟨j + 1, hjl, by go_num, qH (fun i hi => by
     rcases (show i < j ∨ i = j by omega) with h | h
     ·exact hJ.out i h
     ·rw [h, HX.out.1]; exact HZ.out), HB2⟩
    case measure => simp [intOf]; omega
  ·obtain rfl : j = n := by omega
   go_wp2_with fail
   go_ret
   exact ⟨false, rfl, ⟨fun h => absurd h (by decide), fun ⟨k, hk, hz⟩ => absurd hz (Int.not_lt.2 (hJ.out k (by have := HF.out.2.1; omega)))⟩, hB2.out⟩
def lval (l : List FT) (k : Nat) : Rat := fval (l.getD k fd0).1.data.toList (l.getD k fd0).2.data.toList
def tval (t : Tbl) (i : Nat) : Nat → Rat := lval (t.getD i [])
theorem qh5 (n d : List UInt8) : fval n d = (ival n : Rat) / ((ival d).natAbs : Rat) := by
 unfold fval
 rw [← Rat.divInt_ofNat, Rat.divInt_eq_div]; rfl
theorem flcd_dvd {l : List FT} {k : Nat} (hk : k < l.length) : fden (l.getD k fd0) ∣ flcd l := by
 have h := qh7 (l.map fden) (l.map fden).length k (by rw [qaG]; exact hk) qN
 rw [qbu] at h
 have e : (l.map fden).getD k 0 = fden (l.getD k fd0) := by
  rw [qac, qav, qac, qai hk]; rfl
 rw [e] at h
 exact h
theorem qlv {l : List FT} {j : Nat} (hj : j < (l.map fden).length) : (l.map fden).getD j 0 = fden (l.getD j fd0) := by
 have hj' : j < l.length := by rw [qaG] at hj; exact hj
 rw [qac, qav, qac, qai hj']; rfl
theorem qh3 {l : List FT} (h : FAll l) : 0 < flcd l := by
 have := qfK (l.map fden) (fun j hj => by rw [qlv hj]; exact (qel h (by rw [qaG] at hj; exact hj)).1) (l.map fden).length qN
 rw [qbu] at this
 exact this
theorem qfE {l : List FT} (h : FAll l) {m : Nat} (hm : l.length ≤ m) : Fit (flcd l) (m * 67 + 1) := by
 have := qfJ (l.map fden) 67 (fun j hj => by rw [qlv hj]; exact qel h (by rw [qaG] at hj; exact hj)) (l.map fden).length qN
 rw [qbu, qaG] at this
 exact this.mono (by omega)
theorem qec {l : List FT} (h : FAll l) {k : Nat} (hk : k < l.length) : ((ftop l k : Int) : Rat) = (flcd l : Rat) * lval l k := by
 obtain ⟨q, hq⟩ := flcd_dvd hk
 have hd := (qel h hk).1
 have e : flcd l / fden (l.getD k fd0) = q := by rw [hq]; exact qa1 _ hd
 unfold ftop lval
 rw [qh5, e, hq]
 have hd' : ((fden (l.getD k fd0) : Nat) : Rat) ≠ 0 := by
  have := qbK hd
  exact_mod_cast this
 show _ = _ * ((ival _ : Rat) / ((fden (l.getD k fd0) : Nat) : Rat))
 push_cast
 grind
theorem qdg {l : List FT} (h : FAll l) {m : Nat} (hm : l.length ≤ m) {k : Nat} (hk : k < l.length) : Fit (ftop l k).natAbs (67 + (m * 67 + 1)) := by
 unfold ftop
 rw [qaC, qat]
 exact (h k hk).vn.fit.mul ((qfE h hm).le (qaU _ _))
theorem qlF {l : List FT} (h : FAll l) : (flcd l : Rat) ≠ 0 := by
 have := qbK (qh3 h)
 exact_mod_cast this
theorem qk7 {R n : Nat} {A B : Nat → Nat → Rat} (s : Nat → Rat) (hs : ∀ i, i < R → s i ≠ 0) (h : ∀ i, i < R → ∀ j, j < n → A i j = s i * B i j) : qcZ R R n A B := by
 refine ⟨fun i hi => ?_, fun i hi => ?_⟩
 ·exact Span.congr (Span.comb (Span.row (A := B) hi) (Span.row (A := B) hi) (s i) 0) (fun _ _ _ _ => rfl) fun j hj => by rw [h i hi j hj]; grind
 ·refine Span.congr (Span.comb (Span.row (A := A) hi) (Span.row (A := A) hi) (1 / s i) 0) (fun _ _ _ _ => rfl) fun j hj => ?_
  have := hs i hi
  rw [h i hi j hj]; grind
theorem qcy.scale {R n k : Nat} {A B : Nat → Nat → Rat} (s : Nat → Rat) (hs : ∀ i, i < R → s i ≠ 0) (h : ∀ i, i < R → ∀ j, j < n → A i j = s i * B i j) (hr : qcy R n A k) : qcy R n B k := by
 obtain ⟨v, iv, sv⟩ := hr
 exact ⟨v, iv, (qk7 s hs h).symm.trans sv⟩
theorem Sing.scale {R : Nat} {A B : Nat → Nat → Rat} (s : Nat → Rat) (hs : ∀ i, i < R → s i ≠ 0) (h : ∀ i, i < R → ∀ j, j < R → A i j = s i * B i j) : Sing R A ↔ Sing R B := by
 have key : ∀ (y : Nat → Rat) i, i < R → sumQ R (fun j => A i j * y j) = s i * sumQ R (fun j => B i j * y j) := fun y i hi => by
  rw [← qcj]; exact qb5 fun j hj => by rw [h i hi j hj]; grind
 constructor
 ·rintro ⟨y, hy, h0⟩
  refine ⟨y, hy, fun i hi => ?_⟩
  have := h0 i hi
  rw [key y i hi] at this
  rcases qbR.1 this with e | e
  ·exact absurd e (hs i hi)
  ·exact e
 ·rintro ⟨y, hy, h0⟩
  exact ⟨y, hy, fun i hi => by rw [key y i hi, h0 i hi]; grind⟩
theorem qcA.scale {R : Nat} {A B : Nat → Nat → Rat} {b c x : Nat → Rat} (s : Nat → Rat) (hs : ∀ i, i < R → s i ≠ 0) (h : ∀ i, i < R → ∀ j, j < R → A i j = s i * B i j) (hb : ∀ i, i < R → b i = s i * c i) (hx : qcA R A b x) : qcA R B c x := fun i hi => by
 have h1 := hx i hi
 have h2 : sumQ R (fun j => A i j * x j) = s i * sumQ R (fun j => B i j * x j) := by
  rw [← qcj]; exact qb5 fun j hj => by rw [h i hi j hj]; grind
 rw [h2, hb i hi] at h1
 have := hs i hi
 grind
theorem qg6 {l : List FT} {x : FT} {k : Nat} (hk : k < l.length) : (l ++ [x]).getD k fd0 = l.getD k fd0 := by
 rw [qac, qay hk, ← qac]
theorem qg5 {l : List FT} {x : FT} : (l ++ [x]).getD l.length fd0 = x := by
 rw [qac, qaE qN, qaN]; rfl
theorem FAll.snoc {l : List FT} {x : FT} (h : FAll l) (hx : FOk x.1.data.toList x.2.data.toList) : FAll (l ++ [x]) := fun k hk => by
 rw [qaj, qaM] at hk
 by_cases e : k < l.length
 ·rw [qg6 e]; exact h k e
 ·obtain rfl : k = l.length := by omega
  rw [qg5]; exact hx
theorem qfu {l : List FT} {x : FT} {k : Nat} (hk : k < l.length) : lval (l ++ [x]) k = lval l k := by unfold lval; rw [qg6 hk]
theorem qft {l : List FT} {x : FT} : lval (l ++ [x]) l.length = fval x.1.data.toList x.2.data.toList := by unfold lval; rw [qg5]
structure MatPart (W : World) (tb R k n : Nat) (gs : Nat → Nat) (M : Nat → Nat → Int) : Prop where
 row : W.heap[tb]? = some (.cells (rowvs k n gs ++ List.replicate (R - k) zs0).toArray 79 (0, 0))
 rows : ∀ i, i < k → qcx W (gs i) n (M i)
 le : k ≤ R
theorem MatPart.below {W W' : World} {tb R k n : Nat} {gs : Nat → Nat} {M : Nat → Nat → Int} (h : MatPart W tb R k n gs M) (hb : Below W.heap.size W W') : MatPart W' tb R k n gs M :=
 ⟨(hb.block _ (qG h.row).1).trans h.row, fun i hi => (h.rows i hi).below hb, h.le⟩
theorem qih {R k n : Nat} {gs : Nat → Nat} : ∀ x ∈ (rowvs k n gs ++ List.replicate (R - k) zs0).toArray.toList, ∀ d, x ≠ .int .u32 d := by
 intro x hx d e
 rcases qa6.1 (show x ∈ rowvs k n gs ++ List.replicate (R - k) zs0 from hx) with h | h
 ·exact qhl x h d e
 ·rw [(List.mem_replicate.1 h).2] at e; cases e
theorem qcx.keepRows {W W' : World} {tb g m' : Nat} {cs : Array Value} {m : Nat → Int} (h : qcx W g m' m) (hk : W.grownBy W' (some tb)) (ht : W.heap[tb]? = some (.cells cs 79 (0, 0))) (hne : ∀ x ∈ cs.toList, ∀ d, x ≠ .int .u32 d) : qcx W' g m' m := by
 obtain ⟨ps, h1, h2, h3⟩ := h
 have hne2 : g ≠ tb := by
  intro e
  subst e
  have := h2.1.symm.trans ht
  simp at this
 exact ⟨ps, h1, ⟨(hk.block _ (qG h2.1).1 (fun e => hne2 (qan e))).trans h2.1, h2.2⟩, h3.keep hk ht hne⟩
theorem MatPart.at {W : World} {tb R k n : Nat} {gs : Nat → Nat} {M : Nat → Nat → Int} (h : MatPart W tb R k n gs M) (hk : k < R) : W.cell? ⟨tb, k, none⟩ = some zs0 ∧ W.frozen? ⟨tb, k, none⟩ = false := by
 refine ⟨(cell_of_row _ _ _ _ _ _ h.row).trans ?_, frozen_of_row _ _ _ _ _ h.row⟩
 rw [qax, qaE (by rw [qc4]; exact qaf _), qc4, qaN, qbG, if_pos (by omega)]
theorem MatPart.set {W : World} {tb R k n g : Nat} {gs : Nat → Nat} {M : Nat → Nat → Int} (h : MatPart W tb R k n gs M) (hk : k < R) (hg : qcx W g n (M k)) : MatPart (W.setCell ⟨tb, k, none⟩ (rowv g n)) tb R (k + 1) n (fun j => if j = k then g else gs j) M := by
 refine ⟨?_, fun i hi => ?_, hk⟩
 ·rw [heap_setCell_same _ tb k _ _ _ h.row]
  congr 3
  obtain ⟨m, hm⟩ : ∃ m, R - k = m + 1 := ⟨R - k - 1, by omega⟩
  rw [qaa, hm, qbL, qbD _ _ (by rw [qc4]; exact qaf _), qc4, qaN, qad, show R - (k + 1) = m by omega]
  have e : rowvs (k + 1) n (fun j => if j = k then g else gs j) = rowvs k n gs ++ [rowv g n] := by
   unfold rowvs
   rw [List.range_succ, qbx]
   congr 1
   ·exact List.map_congr_left fun i hi => by
     have := qbp.1 hi
     simp only [if_neg (show ¬ i = k by omega)]
   ·simp only [qaO, qaV, if_true]
  rw [e, qaW]; rfl
 ·by_cases e : i = k
  ·subst e; simp only [if_true]; exact hg.keepRows (least.qcb _ _ _ _) h.row qih
  ·simp only [if_neg e]; exact (h.rows i (by omega)).keepRows (least.qcb _ _ _ _) h.row qih
theorem MatPart.done {W : World} {tb R n : Nat} {gs : Nat → Nat} {M : Nat → Nat → Int} (h : MatPart W tb R R n gs M) : MatAt W tb R n gs M := by
 have := h.row
 rw [qaN, List.replicate_zero, qbl] at this
 exact ⟨this, h.rows⟩
theorem MatPart.made (W : World) (R n : Nat) (gs : Nat → Nat) (M : Nat → Nat → Int) : MatPart (W.alloc (.cells (madeCells #[zs0] R) 79)) W.heap.size R 0 n gs M := by
 refine ⟨?_, fun i hi => absurd hi (by omega), qar _⟩
 rw [qM _ _ _ rfl, Nat.sub_zero, show rowvs 0 n gs = [] from rfl, qbm, ← toList_madeCells_one, Array.toArray_toList]
theorem qj4 : (Tryz.prog.info? 79).map (fun i => (i.zero, i.size, i.bytes)) = some (some (.slice none 0 0), 1, 24) := by kernel_rfl
theorem qha (n : Nat) (hn : n ≤ 1048576) (w : World) : (Instr.makeSlice 78 (.int .i64 (n : Int)) (.int .i64 (n : Int))).run Tryz.prog w = .ok (.slice (some ⟨w.heap.size, 0, none⟩) n n) (w.alloc (.cells (madeCells #[zs0] n) 79)) := by
 obtain ⟨i, hi, hz0, hz1, hz2⟩ := info_parts qj4
 have h := run_make (P := Tryz.prog) w 78 79 i _ Tryz.underlying78 hi hz0 .i64 .i64 (n : Int) (n : Int) (by omega) (Int.le_refl _) (by rw [hz2]; omega) (by omega)
 rw [hz1, Int.toNat_natCast, qbN] at h
 exact h
theorem qez {w a b : World} {g : Nat} (h : Below w.heap.size w a) (k : a.grownBy b (some g)) (hg : w.heap.size ≤ g := by omega) : Below w.heap.size w b :=
 h.trans ⟨k.os, k.tape, k.output, k.size, fun i hi => k.block i (qak hi h.size) (fun e => by have := qan e; omega)⟩
theorem qdi {a b : World} {g : Nat} (h : a.grownBy b (some g)) {p : Addr} (hp : p.block < a.heap.size) (hne : p.block ≠ g) : b.cell? p = a.cell? p := World.cell?_of_block (h.block _ hp (fun e => hne (qan e)))
theorem qdL {W : World} {ao : Option Addr} {b off n c : Nat} {l : List FT} (hl : l.length = n) (hn : n ≤ 64) (hcells : FCells W ao b off l) (hf : FAll l) :
  Calls Tryz.prog 50 #[.slice ao n c] W fun e W' => ∃ g v, e = .returned (.tuple #[rowv g n, v]) ∧ W.heap.size ≤ g ∧ Below W.heap.size W W' ∧ MagAt W' v (flcd l) ∧ qcx W' g n (ftop l) := by
 refine (qiL ao b off n c l W hl hn hcells hf).mono ?_
 rintro e W' ⟨g, v, ps, rfl, hg, hb, hm, hp, hr, hps⟩
 exact ⟨g, v, rfl, hg, hb, hm, ps, hp, hr, hps⟩
def qjj (w : World) (t : Tbl) (e : Ending) (w' : World) : Prop :=
 ((TOk t ∧ ∃ k : Nat, qcy t.length (wid t) (tval t) k ∧ e = .returned (.tuple #[.int .i64 k, .int .i64 0])) ∨ (¬ TOk t ∧ e = .returned (.tuple #[.int .i64 0, .int .i64 60]))) ∧ Below w.heap.size w w'
theorem qmi (ao : Option Addr) (b off R c : Nat) (t : Tbl) (w : World) (hR : t.length = R) (hl : R ≤ 4611686018427387904) (hw : ∀ k, k < R → (t.getD k []).length ≤ 4611686018427387904) (hc : TCells w ao b off t) :
  Calls Tryz.prog 16 #[.slice ao R c] w fun e w' => qjj w t e w' := by
 have HK := qH (qgW ao b off R c t w hR hl hw hc)
 have HC := qH (qA hc hR)
 clear hR hw hc
 go_enter Tryz.func16, Tryz.ntmps16
 go_wp2_with fail
 refine HK.out.mono ?_
 rintro e w2 ⟨cc, rfl, hcc, hb2⟩
 rcases hcc with ⟨rfl, hT⟩ | ⟨rfl, hT⟩
 case inr =>
  have HX := qH (qA hT hb2)
  clear hT hb2
  go_wp2_with fail
  go_ret2
  exact ⟨qas ⟨HX.out.1, rfl⟩, HX.out.2⟩
 have hR40 : R ≤ 40 := by have := hT.r2; have := HC.out.2; omega
 have hR1 : 1 ≤ R := by have := hT.r1; have := HC.out.2; omega
 have haw := HC.out.1.addr (by have := HC.out.2; omega)
 subst haw
 obtain ⟨n, hn⟩ : ∃ n, wid t = n := ⟨_, rfl⟩
 have hn10 : n ≤ 10 := by have := hT.c2; omega
 have hn1 : 1 ≤ n := by have := hT.c1; omega
 have hmk := qha R (by omega) w2
 have HX := qH (qA hT (qA hb2 hn))
 clear hT hb2 hn
 go_wp2_with fail
 go_loopw [18] (fun x18 W => ∃ (k : Nat) (gs : Nat → Nat), k ≤ R ∧ x18 = .int .i64 k ∧ Hid (MatPart W w2.heap.size R k n gs (fun i => ftop (t.getD i []))) ∧ Hid (Below w2.heap.size w2 W)) (fun x18 _ => R - (intOf x18).toNat)
 case atStart => exact ⟨0, fun _ => 0, qar _, rfl, qH (MatPart.made _ _ _ _ _), qH (qb1 qB qN)⟩
 case round =>
  clear hmk
  obtain ⟨k, gs, hk, rfl, hM, hB⟩ := hrel
  have hBw := HX.out.2.1.trans (hB.out.mono HX.out.2.1.size)
  by_cases hkR : k < R
  ·have hki : (k : Int) < R := by omega
   have hkl : k < t.length := by have := HC.out.2; omega
   obtain ⟨ra, rb, ro, rc, hck, hfk⟩ := (HC.out.1.below hBw).row k hkl
   have hrk := HX.out.1.rows k hkl
   rw [HX.out.2.2] at hrk
   rw [hrk.1] at hck
   have HI := qH (qdL (c := rc) hrk.1 (show n ≤ 64 by omega) hfk hrk.2)
   clear hrk hfk hBw
   go_wp2_with fail
   refine HI.out.mono ?_
   rintro e w3 ⟨g, v, rfl, _, hb3, _, hg⟩
   have hM3 := hM.out.below hb3
   obtain ⟨q0, q1⟩ := hM3.at hkR
   have hset := hM3.set hkR hg
   have hbb := (hB.out.trans (hb3.mono hB.out.size)).setCell (p := ⟨w2.heap.size, k, none⟩) qN (rowv g n)
   have H3 := qH (qA hset hbb)
   clear hM3 hset hbb hb3 hg
   go_wp2_with fail
   go_roundw
   case rel => exact ⟨k + 1, _, hkR, by go_num, qH H3.out.1, qH H3.out.2⟩
   case measure => simp [intOf]; omega
  ·obtain rfl : k = R := by omega
   have hMd := hM.out.done
   have hrk := rank_any w2.heap.size k n 4356 gs (fun i => ftop (t.getD i [])) wr (by omega) (by omega) hn10 (by omega) (by omega) hMd (fun i hi => by
    obtain ⟨ps, _, h, _⟩ := hMd.rows i hi
    exact (qG h.1).1) (fun i hi j hj => by
    have hi' : i < t.length := by have := HC.out.2; omega
    have h := HX.out.1.rows i hi'
    have e := HX.out.2.2
    exact (qdg h.2 (m := 63) (by omega) (show j < (t.getD i []).length by omega)).mono (by omega))
   have HR := qH hrk
   have HBw := qH hBw
   clear hMd hrk hBw
   go_wp2_with fail
   refine HR.out.mono ?_
   rintro e w3 ⟨r, rfl, hg3, hr3⟩
   have hr4 := qcy.scale (B := tval t) (fun i => (flcd (t.getD i []) : Rat)) (fun i hi => qlF (HX.out.1.rows i (by have := HC.out.2; omega)).2) (fun i hi j hj => by
    have h := HX.out.1.rows i (by have := HC.out.2; omega)
    have e := HX.out.2.2
    exact qec h.2 (by omega)) hr3
   have H4 := qH (qA hr4 hg3)
   clear hr4 hg3 hr3
   go_wp2_with fail
   go_ret2
   exact ⟨qaA ⟨HX.out.1, r, by rw [HC.out.2, HX.out.2.2]; exact H4.out.1, rfl⟩, qez HX.out.2.1 (qca (qcd _ hB.out) H4.out.2) HX.out.2.1.size⟩
end Go.Proofs.YtfminfgabiipjaaGreatDoor
