/- Aa, part 24: Ls3 Rw Ls4 Bes -/
import Derived.Laws.CopyOwn
import Derived.Test.YtfminfgabiipjaaGreatDoorAa0
import Derived.Test.YtfminfgabiipjaaGreatDoorAa23
set_option maxRecDepth 100000
set_option maxHeartbeats 16000000
namespace Go.Proofs.YtfminfgabiipjaaGreatDoor
open Go.RowKit
theorem FOk.dpos {n d : List UInt8} (h : FOk n d) : 0 < (ival d).natAbs := by have := h.pos; omega
theorem qfD (a : Option Addr) (n c : Nat) (b : Bool) (w : World) : (Instr.field 105 (.agg #[.slice a n c, .bool b]) 0).run Tryz.prog w = .ok (.slice a n c) w := by kernel_rfl
theorem qmV (n d : ByteArray) (hf : FOk n.data.toList d.data.toList) (pb : Nat) (a2 : Option Addr) (n2 c2 : Nat) (Bv K : Nat) (hK : K ≤ 68719476736) (hK67 : 67 ≤ K) (w : World) (hrow : w.heap[pb]? = some (.cells #[.slice a2 n2 c2] 81 (0, 0))) (hm : MagAt w (.slice a2 n2 c2) Bv) (hB : Fit Bv K) :
  Calls Tryz.prog 107 #[.agg #[.string n, .string d], .pointer (some ⟨pb, 0, none⟩)] w fun e w' => ∃ v, e = .returned v ∧ Below w.heap.size w w' ∧ IntAt w' v (ival n.data.toList * ((Bv / (ival d.data.toList).natAbs : Nat) : Int)) := by
 obtain ⟨W1, hW1⟩ : ∃ W1, W1 = (w.alloc (.cells #[.string n, .string d] 46)).alloc (.cells #[.slice none 0 0, .bool false] 105) := ⟨_, rfl⟩
 have hb1 : Below w.heap.size w W1 := hW1 ▸ qb1 (qb1 qB qN) qN
 have hr0 : W1.heap[w.heap.size]? = some (.cells #[.string n, .string d] 46 (0, 0)) := by rw [hW1, qL _ _ _ (by simp only [qab]; omega)]; exact qM _ _ _ rfl
 have hr1 : W1.heap[w.heap.size + 1]? = some (.cells #[.slice none 0 0, .bool false] 105 (0, 0)) := by rw [hW1]; exact qM _ _ _ (by simp)
 have hrp := (hb1.block _ (qG hrow).1).trans hrow
 have C0 : ∀ W, Below W1.heap.size W1 W → W.cell? ⟨pb, 0, none⟩ = some (.slice a2 n2 c2) := fun W h => (h.cell (p := ⟨pb, 0, none⟩) (qG hrp).1).trans (cell_of_row _ _ 0 _ _ _ hrp)
 have C1 : ∀ W, Below W1.heap.size W1 W → W.cell? ⟨w.heap.size, 1, none⟩ = some (.string d) := fun W h => (h.cell (p := ⟨w.heap.size, 1, none⟩) (qG hr0).1).trans (cell_of_row _ _ 1 _ _ _ hr0)
 have C2 : ∀ W, Below W1.heap.size W1 W → W.cell? ⟨w.heap.size, 0, none⟩ = some (.string n) := fun W h => (h.cell (p := ⟨w.heap.size, 0, none⟩) (qG hr0).1).trans (cell_of_row _ _ 0 _ _ _ hr0)
 have HN1 := qH (fun W => least.qcO d hf.vd W)
 have HN2 := qH (fun W => least.qcO n hf.vn W)
 have HR := qH (qA hb1 (qA hr1 (hm.below hb1)))
 have HF := qH (qA hf (qA hB (qA hK hK67)))
 have hfi := qfD
 have hst : Below W1.heap.size W1 W1 := Below.refl _ _
 have hstD : Below W1.heap.size W1 W1.drew := hst.drew
 have HC := qH (qA C2 hr0)
 clear hb1 hr0 hr1 hrp hm hf hB hrow C2
 go_enter Tryz.func107, Tryz.ntmps107
 go_wp2_with fail
 rw [← hW1]
 clear hW1
 go_cut [4] (fun x4 W => ∃ (a4 : Option Addr) (n4 c4 : Nat), x4 = .slice a4 n4 c4 ∧ Hid (MagAt W (.slice a4 n4 c4) (Bv / (ival d.data.toList).natAbs)) ∧ Hid (Below W1.heap.size W1 W))
 case first =>
  go_region_held3 (fun W => Below W1.heap.size W1 W) (first | with_reducible exact hst | with_reducible exact hstD | with_reducible exact HB3 | with_reducible exact HB2) (first | (go_at_call 65; refine (HN1.out _).mono ?_; rintro e w2 ⟨p2, rfl, hb2, hp2⟩; have HB2 : Below W1.heap.size W1 w2 := hstD.trans hb2; obtain ⟨m2, rfl, hg2⟩ := hp2; have G2 := qH hg2; obtain ⟨s2, _, _, u2, t2, _, rfl, _, _⟩ := hg2; clear hb2) | (go_at_call 75; refine (least.qcp Bv (ival d.data.toList).natAbs K (by have := HF.out.2.2.1; omega) _ _ _ (HR.out.2.2.below HB2) G2.out HF.out.2.1 (HF.out.1.vd.fit.mono HF.out.2.2.2) HF.out.1.dpos).mono ?_; rintro e w3 ⟨q3, r3, rfl, hb3, hq3, _⟩; have HB3 : Below W1.heap.size W1 w3 := bjoin HB2 hb3; have G3 := qH hq3; obtain ⟨s3, _, _, u3, t3, _, rfl, _, _⟩ := hq3; clear hb3))
  all_goals go_wp2_with fail
  all_goals go_meet
  all_goals exact ⟨_, _, _, rfl, G3, qH HB3⟩
 case rest =>
  obtain ⟨a4, n4, c4, rfl, hG4, hB4⟩ := hcut
  have k0 := HC.out.1 wc hB4.out
  clear C0 C1
  go_wp2_with fail
  refine (HN2.out _).mono ?_
  rintro e w5 ⟨p5, rfl, hb5, hp5⟩
  have I5 := qH hp5
  have G5 := qH (hG4.out.below hb5)
  have H5 := qH (hB4.out.trans (hb5.mono hB4.out.size))
  obtain ⟨a6, n6, c6, b6, rfl⟩ := least.qb8 hp5
  clear hb5 hp5 k0
  go_wp2_with fail
  refine (least.qc9 (ival n.data.toList) (Bv / (ival d.data.toList).natAbs) 67 K (by have := HF.out.2.2.1; omega) _ _ w5 I5.out G5.out HF.out.1.vn.fit (HF.out.2.1.le (qaU _ _))).mono ?_
  rintro e w6 ⟨p6, rfl, hb6, hp6⟩
  obtain ⟨a9, n9, c9, b9, rfl⟩ := least.qb8 hp6
  have h6 := H5.out.trans (hb6.mono H5.out.size)
  have hr6 := (h6.block _ (qG HR.out.2.1).1).trans HR.out.2.1
  have H6 := qH (qA hr6 (qA (HR.out.1.trans (h6.mono HR.out.1.size)) (least.qdE (cs' := #[.slice a9 n9 c9, .bool b9]) hp6 hr6 qej)))
  clear hb6 hp6 h6 hr6
  go_wp2_with ((with_reducible refine wpList_store_row rfl 105 _ _ rfl (w.heap.size + 1) #[.slice a9 n9 c9, .bool b9] ?_ ?_ 105 _ H6.out.1 2 ?_ ?_ ?_ ?_ ?_); (next => rfl); (next => rfl); (next => kernel_rfl); (next => rfl); (next => rfl); (next => rfl))
  exact bodyPost_ret (v := .agg #[.slice a9 n9 c9, .bool b9]) (qb9 rfl _ _ (w.heap.size + 1) 105 _ _ rfl (setRow_heap _ _ _ _ _ _ H6.out.1) Tryz.underlying105 rfl 2 (by kernel_rfl) rfl) rfl ⟨_, rfl, below_setRow H6.out.2.1 (by omega) _, H6.out.2.2⟩
abbrev zs0 : Value := .slice none 0 0
def PRow (W : World) (g n : Nat) (vs : List Value) : Prop :=
 W.heap[g]? = some (.cells (vs ++ List.replicate (n - vs.length) zs0).toArray 81 (0, 0)) ∧ (∀ v ∈ vs, ∀ d, v ≠ .int .u32 d) ∧ vs.length ≤ n
theorem qjz {W : World} {v : Value} {x : Nat} (h : MagAt W v x) : ∀ d, v ≠ .int .u32 d := by
 obtain ⟨_, _, _, _, _, _, rfl, _, _⟩ := h
 intro d e; cases e
theorem PRow.below {W W' : World} {g n : Nat} {vs : List Value} (h : PRow W g n vs) (hb : Below W.heap.size W W') : PRow W' g n vs :=
 ⟨(hb.block _ (qG h.1).1).trans h.1, h.2⟩
theorem PRow.made (W : World) (n : Nat) : PRow (W.alloc (.cells (madeCells #[zs0] n) 81)) W.heap.size n [] := by
 refine ⟨?_, (fun _ hv => absurd hv (by simp)), qar _⟩
 rw [qM _ _ _ rfl, qbm, List.length_nil, Nat.sub_zero, ← toList_madeCells_one, Array.toArray_toList]
theorem PRow.keep {W W' : World} {g g' n : Nat} {vs : List Value} (h : PRow W g n vs) (hk : W.grownBy W' (some g')) (hne : g ≠ g') : PRow W' g n vs :=
 ⟨(hk.block _ (qG h.1).1 (fun e => hne (qan e))).trans h.1, h.2⟩
theorem PRow.nope {W : World} {g n : Nat} {vs : List Value} (h : PRow W g n vs) : ∀ x ∈ (vs ++ List.replicate (n - vs.length) zs0).toArray.toList, ∀ d, x ≠ .int .u32 d := by
 intro x hx d
 rcases qa6.1 (show x ∈ vs ++ List.replicate (n - vs.length) zs0 from hx) with hx | hx
 ·exact h.2.1 x hx d
 ·rw [(List.mem_replicate.1 hx).2]; intro e; cases e
theorem PRow.at {W : World} {g n : Nat} {vs : List Value} (h : PRow W g n vs) (hk : vs.length < n) : W.cell? ⟨g, vs.length, none⟩ = some zs0 ∧ W.frozen? ⟨g, vs.length, none⟩ = false := by
 refine ⟨(cell_of_row _ _ _ _ _ _ h.1).trans ?_, frozen_of_row _ _ _ _ _ h.1⟩
 rw [qax, qaE qN, qaN, qbG, if_pos (by omega)]
theorem PRow.set {W : World} {g n : Nat} {vs : List Value} (h : PRow W g n vs) (hk : vs.length < n) (v : Value) (hv : ∀ d, v ≠ .int .u32 d) : PRow (W.setCell ⟨g, vs.length, none⟩ v) g n (vs ++ [v]) := by
 refine ⟨?_, fun x hx d => ?_, by rw [qaj, qaM]; omega⟩
 ·rw [heap_setCell_same _ g vs.length _ _ v h.1]
  congr 3
  obtain ⟨m, hm⟩ : ∃ m, n - vs.length = m + 1 := ⟨n - vs.length - 1, by omega⟩
  rw [qaa, hm, qbL, qbD _ _ qN, qaN, qad, qaj, qaM, show n - (vs.length + 1) = m by omega, qaW]; rfl
 ·rcases qa6.1 hx with hx | hx
  ·exact h.2.1 x hx d
  ·rw [qaq.1 hx]; exact hv d
theorem PRow.cells {W : World} {g n : Nat} {vs : List Value} (h : PRow W g n vs) (_hn : vs.length = n) : VCells W (some ⟨g, 0, none⟩) g 0 vs := by
 refine ⟨fun _ => rfl, fun k hk => ?_⟩
 rw [qaD, cell_of_row _ _ _ _ _ _ h.1, qax, qay hk, qac, qai hk]; rfl
theorem qdQ.keep {W W' : World} {g : Nat} {cs : Array Value} {t : TypeId} {fz : Nat × Nat} {vs : List Value} {xs : List Nat} (h : qdQ W vs xs) (hk : W.grownBy W' (some g)) (hg : W.heap[g]? = some (.cells cs t fz)) (hne : ∀ x ∈ cs.toList, ∀ d, x ≠ .int .u32 d) : qdQ W' vs xs :=
 ⟨h.1, fun k hk' => qcC (h.2 k hk') hk hg hne⟩
theorem qdQ.snoc {W : World} {vs : List Value} {xs : List Nat} {v : Value} {x : Nat} (h : qdQ W vs xs) (hv : MagAt W v x) : qdQ W (vs ++ [v]) (xs ++ [x]) := by
 refine ⟨by rw [qaj, qaj, h.1]; rfl, fun k hk => ?_⟩
 rw [qaj, qaM] at hk
 by_cases hlt : k < xs.length
 ·rw [qac, qac, qay (by rw [h.1]; exact hlt), qay hlt, ← qac, ← qac]
  exact h.2 k hlt
 ·obtain rfl : k = xs.length := by omega
  rw [qac, qac, qaE (by rw [h.1]; exact qaf _), qaE qN, h.1, qaN]
  exact hv
def iflat (ps : List (Value × Bool)) : List Value := ps.flatMap fun p => [p.1, .bool p.2]
theorem qeo (ps : List (Value × Bool)) : (iflat ps).length = ps.length * 2 := by
 induction ps with
 | nil => rfl
 | cons p ps ih => rw [iflat, List.flatMap_cons, qaj, ← iflat, ih, qbW]; simp; omega
theorem qfG (a b : List (Value × Bool)) : iflat (a ++ b) = iflat a ++ iflat b := by unfold iflat; rw [List.flatMap_append]
def IRow (W : World) (g n : Nat) (ps : List (Value × Bool)) : Prop :=
 W.heap[g]? = some (.cells (iflat (ps ++ List.replicate (n - ps.length) (zs0, false))).toArray 105 (0, 0)) ∧ (∀ p ∈ ps, ∀ d, p.1 ≠ .int .u32 d) ∧ ps.length ≤ n
theorem IRow.below {W W' : World} {g n : Nat} {ps : List (Value × Bool)} (h : IRow W g n ps) (hb : Below W.heap.size W W') : IRow W' g n ps :=
 ⟨(hb.block _ (qG h.1).1).trans h.1, h.2⟩
theorem qlM {ps : List (Value × Bool)} (h : ∀ p ∈ ps, ∀ d, p.1 ≠ .int .u32 d) : ∀ x ∈ iflat ps, ∀ d, x ≠ .int .u32 d := by
 intro x hx d
 unfold iflat at hx
 obtain ⟨p, hp, hx⟩ := List.mem_flatMap.1 hx
 rcases qaL.1 hx with rfl | hx
 ·exact h p hp d
 ·rw [qaq.1 hx]; intro e; cases e
theorem IRow.nope {W : World} {g n : Nat} {ps : List (Value × Bool)} (h : IRow W g n ps) : ∀ x ∈ (iflat (ps ++ List.replicate (n - ps.length) (zs0, false))).toArray.toList, ∀ d, x ≠ .int .u32 d := by
 refine qlM fun p hp d => ?_
 rcases qa6.1 hp with hp | hp
 ·exact h.2.1 p hp d
 ·rw [(List.mem_replicate.1 hp).2]; intro e; cases e
theorem qfH (ps : List (Value × Bool)) : ∀ (k : Nat) (p : Value × Bool), ps[k]? = some p → (iflat ps)[k * 2]? = some p.1 ∧ (iflat ps)[k * 2 + 1]? = some (.bool p.2) := by
 induction ps with
 | nil => intro k p h; cases h
 | cons q ps ih =>
  intro k p h
  have e : iflat (q :: ps) = q.1 :: .bool q.2 :: iflat ps := rfl
  rw [e]
  cases k with
  | zero =>
   have : q = p := qan h
   subst this; exact ⟨rfl, rfl⟩
  | succ k =>
   have h2 := ih k p h
   rw [show (k + 1) * 2 = k * 2 + 1 + 1 by omega]
   exact h2
theorem IRow.at {W : World} {g n : Nat} {ps : List (Value × Bool)} (h : IRow W g n ps) (hk : ps.length < n) : (W.cell? ⟨g, ps.length * 2, none⟩ = some zs0 ∧ W.cell? ⟨g, ps.length * 2 + 1, none⟩ = some (.bool false)) ∧ ∀ j, W.frozen? ⟨g, j, none⟩ = false := by
 have h0 : (ps ++ List.replicate (n - ps.length) (zs0, false))[ps.length]? = some (zs0, false) := by
  rw [qaE qN, qaN, qbG, if_pos (by omega)]
 obtain ⟨h1, h2⟩ := qfH _ _ _ h0
 exact ⟨⟨(cell_of_row _ _ _ _ _ _ h.1).trans ((qax ..).trans h1), (cell_of_row _ _ _ _ _ _ h.1).trans ((qax ..).trans h2)⟩, fun j => frozen_of_row _ _ _ _ _ h.1⟩
theorem IRow.set {W : World} {g n : Nat} {ps : List (Value × Bool)} (h : IRow W g n ps) (hk : ps.length < n) (v : Value) (b : Bool) (hv : ∀ d, v ≠ .int .u32 d) :
  IRow ((W.setCell ⟨g, ps.length * 2, none⟩ v).setCell ⟨g, ps.length * 2 + 1, none⟩ (.bool b)) g n (ps ++ [(v, b)]) := by
 refine ⟨?_, fun x hx d => ?_, by rw [qaj, qaM]; omega⟩
 ·rw [heap_setCell_same _ g (ps.length * 2 + 1) _ _ _ (heap_setCell_same _ g (ps.length * 2) _ _ v h.1)]
  congr 3
  obtain ⟨m, hm⟩ : ∃ m, n - ps.length = m + 1 := ⟨n - ps.length - 1, by omega⟩
  have e1 : iflat (ps ++ List.replicate (m + 1) (zs0, false)) = iflat ps ++ (zs0 :: .bool false :: iflat (List.replicate m (zs0, false))) := by
   rw [qfG, qbL]; rfl
  have e2 : iflat (ps ++ [(v, b)] ++ List.replicate m (zs0, false)) = iflat ps ++ (v :: .bool b :: iflat (List.replicate m (zs0, false))) := by
   rw [qfG, qfG, qaW]; rfl
  rw [qaa, qaa, hm, qaj, qaM, show n - (ps.length + 1) = m by omega, e1, e2]
  rw [qbD _ _ (by rw [qeo]; exact qaf _), qeo, qaN, qad, qbD _ _ (by rw [qeo]; omega), qeo, show ps.length * 2 + 1 - ps.length * 2 = 1 by omega]
  rfl
 ·rcases qa6.1 hx with hx | hx
  ·exact h.2.1 x hx d
  ·rw [qaq.1 hx]; exact hv d
theorem qlN (n : Nat) : ∀ i, i < n * 2 → (iflat (List.replicate n (zs0, false)))[i]? = some (if i % 2 = 0 then zs0 else .bool false) := by
 intro i hi
 have h := qfH (List.replicate n (zs0, false)) (i / 2) (zs0, false) (by rw [qbG, if_pos (by omega)])
 by_cases e : i % 2 = 0
 ·rw [if_pos e]
  have := h.1
  rwa [show i / 2 * 2 = i by omega] at this
 ·rw [if_neg e]
  have := h.2
  rwa [show i / 2 * 2 + 1 = i by omega] at this
theorem qlW (n : Nat) : madeCells #[zs0, .bool false] (n * 2) = (iflat (List.replicate n (zs0, false))).toArray := by
 apply Array.ext'
 apply qbw
 intro i
 rw [Array.getElem?_toList]
 show _ = (iflat (List.replicate n (zs0, false)))[i]?
 by_cases hi : i < n * 2
 ·rw [qlN n i hi]
  have hm : (madeCells #[zs0, .bool false] (n * 2))[i]? = some ((#[zs0, .bool false] : Array Value)[i % 2]!) := by simp [madeCells, hi]
  rw [hm]
  congr 1
  rcases (show i % 2 = 0 ∨ i % 2 = 1 by omega) with e | e
  ·rw [if_pos e, e]; rfl
  ·rw [if_neg (by omega), e]; rfl
 ·rw [Array.getElem?_eq_none (by rw [size_madeCells]; omega), qau (by rw [qeo, qaR]; omega)]
theorem IRow.made (W : World) (n : Nat) : IRow (W.alloc (.cells (madeCells #[zs0, .bool false] (n * 2)) 105)) W.heap.size n [] := by
 refine ⟨?_, (fun _ hv => absurd hv (by simp)), qar _⟩
 rw [qM _ _ _ rfl, qbm, List.length_nil, Nat.sub_zero, qlW]
theorem infoI : (Tryz.prog.info? 105).map (fun i => (i.zero, i.size, i.bytes)) = some (some (.agg #[zs0, .bool false]), 2, 32) := by kernel_rfl
theorem qg9 (n : Nat) (hn : n ≤ 1048576) (w : World) : (Instr.makeSlice 79 (.int .i64 (n : Int)) (.int .i64 (n : Int))).run Tryz.prog w = .ok (.slice (some ⟨w.heap.size, 0, none⟩) n n) (w.alloc (.cells (madeCells #[zs0, .bool false] (n * 2)) 105)) := by
 obtain ⟨i, hi, hz0, hz1, hz2⟩ := info_parts infoI
 have h := run_make (P := Tryz.prog) w 79 105 i _ Tryz.underlying79 hi hz0 .i64 .i64 (n : Int) (n : Int) (by omega) (Int.le_refl _) (by rw [hz2]; omega) (by omega)
 rw [h, hz1, Int.toNat_natCast]; rfl
abbrev FT := ByteArray × ByteArray
def fd0 : FT := (⟨#[]⟩, ⟨#[]⟩)
structure FCells (W : World) (ao : Option Addr) (b off : Nat) (l : List FT) : Prop where
 addr : 0 < l.length → ao = some ⟨b, off, none⟩
 cell : ∀ k, k < l.length → W.cell? ⟨b, off + k * 2, none⟩ = some (.string (l.getD k fd0).1) ∧ W.cell? ⟨b, off + k * 2 + 1, none⟩ = some (.string (l.getD k fd0).2)
theorem FCells.below {W W' : World} {ao : Option Addr} {b off : Nat} {l : List FT} (h : FCells W ao b off l) (hb : Below W.heap.size W W') : FCells W' ao b off l :=
 ⟨h.addr, fun k hk => ⟨(hb.cell (qag W _ (h.cell k hk).1)).trans (h.cell k hk).1, (hb.cell (qag W _ (h.cell k hk).2)).trans (h.cell k hk).2⟩⟩
def FAll (l : List FT) : Prop := ∀ k, k < l.length → FOk (l.getD k fd0).1.data.toList (l.getD k fd0).2.data.toList
def fden (x : FT) : Nat := (ival x.2.data.toList).natAbs
theorem infoM : (Tryz.prog.info? 81).map (fun i => (i.zero, i.size, i.bytes)) = some (some (.slice none 0 0), 1, 24) := by kernel_rfl
theorem qel {l : List FT} (h : FAll l) {k : Nat} (hk : k < l.length) : 0 < fden (l.getD k fd0) ∧ Fit (fden (l.getD k fd0)) 67 := ⟨(h k hk).dpos, (h k hk).vd.fit⟩
theorem qlw (l : List FT) (k : Nat) (hk : k < l.length) : (l.take (k + 1)).map fden = (l.take k).map fden ++ [fden (l.getD k fd0)] := by
 rw [List.take_add_one, qai hk, qbx, qac, qai hk]; rfl
def flcd (l : List FT) : Nat := lcms (l.map fden)
def ftop (l : List FT) (k : Nat) : Int := ival (l.getD k fd0).1.data.toList * ((flcd l / fden (l.getD k fd0) : Nat) : Int)
def qcH (W : World) (ps : List (Value × Bool)) (z : Nat → Int) : Prop := ∀ k, k < ps.length → (ps.getD k (zs0, false)).2 = decide (z k < 0) ∧ MagAt W (ps.getD k (zs0, false)).1 (z k).natAbs
theorem qcH.below {W W' : World} {ps : List (Value × Bool)} {z : Nat → Int} (h : qcH W ps z) (hb : Below W.heap.size W W') : qcH W' ps z := fun k hk => ⟨(h k hk).1, (h k hk).2.below hb⟩
theorem qcH.keep {W W' : World} {g : Nat} {cs : Array Value} {t : TypeId} {fz : Nat × Nat} {ps : List (Value × Bool)} {z : Nat → Int} (h : qcH W ps z) (hk : W.grownBy W' (some g)) (hg : W.heap[g]? = some (.cells cs t fz)) (hne : ∀ x ∈ cs.toList, ∀ d, x ≠ .int .u32 d) : qcH W' ps z :=
 fun k hk' => ⟨(h k hk').1, qcC (h k hk').2 hk hg hne⟩
theorem qcH.snoc {W : World} {ps : List (Value × Bool)} {z : Nat → Int} {v : Value} (h : qcH W ps z) (hv : MagAt W v (z ps.length).natAbs) : qcH W (ps ++ [(v, decide (z ps.length < 0))]) z := by
 intro k hk
 rw [qaj, qaM] at hk
 by_cases hlt : k < ps.length
 ·rw [qac, qay hlt, ← qac]; exact h k hlt
 ·obtain rfl : k = ps.length := by omega
  rw [qac, qaE qN, qaN]; exact ⟨rfl, hv⟩
theorem qk0 {P : Program} {fn : Func} {p u : Tmp} {ty : TypeId} (h : fn.results = #[.tmp u, .cell p ty]) (tmps : Array Value) (w : World) (g : Nat) (d : TypeDesc) (hu : P.underlying ty = some d) (hd : (match d with | .struct _ | .array _ _ => true | _ => false) = false)
  (hp : tmps.getD p undef = .pointer (some ⟨g, 0, none⟩)) (v1 v : Value) (h1 : tmps.getD u undef = v1) (hc : w.cell? ⟨g, 0, none⟩ = some v) :
  (results fn tmps).run P w = .ok (.tuple #[v1, v]) w := by
 have hagg : (isAgg ty).run P w = .ok false w := by
  unfold isAgg
  rw [Sem.run_bind, run_underlying hu w]
  cases d <;> simp_all
 have hl : (loadVar ty ⟨g, 0, none⟩).run P w = .ok v w := by
  simp [loadVar, Sem.run_bind, hagg, hc]
 have hp' : tmps[p]?.getD undef = .pointer (some ⟨g, 0, none⟩) := by simpa using hp
 have h1' : tmps[u]?.getD undef = v1 := by simpa using h1
 simp [results, h, hp', h1', asAddr, hl, Result.andThen]
theorem qiL (ao : Option Addr) (b off n c : Nat) (l : List FT) (w : World) (hl : l.length = n) (hn : n ≤ 64) (hcells : FCells w ao b off l) (hf : FAll l) :
  Calls Tryz.prog 50 #[.slice ao n c] w fun e w' => ∃ g v ps, e = .returned (.tuple #[.slice (some ⟨g, 0, none⟩) n n, v]) ∧ w.heap.size ≤ g ∧ Below w.heap.size w w' ∧ MagAt w' v (flcd l) ∧ ps.length = n ∧ IRow w' g n ps ∧ qcH w' ps (ftop l) := by
 have hmk := run_make_row' (P := Tryz.prog) 163 81 (.slice none 0 0) 24 Tryz.underlying163 infoM rfl .i64 .i64 n (by omega) (by omega)
 have HC := qH (qA hcells (qA hf hl))
 have hfi := qfD
 clear hcells hf hl
 go_enter Tryz.func50, Tryz.ntmps50
 go_wp2
 go_loopw [15] (fun x15 W => ∃ (k : Nat) (vs : List Value), k ≤ n ∧ x15 = .int .i64 k ∧ Hid (vs.length = k ∧ PRow W (w.heap.size + 1) n vs ∧ qdQ W vs ((l.take k).map fden) ∧ W.heap[w.heap.size]? = some (.cells #[zs0] 81 (0, 0))) ∧ Hid (Below w.heap.size w W)) (fun x15 _ => n - (intOf x15).toNat)
 case atStart =>
  have h1 := PRow.made (w.alloc (.cells #[zs0] 81)) n
  rw [qab] at h1
  exact ⟨0, [], qar _, rfl, qH ⟨rfl, h1, ⟨by simp, fun k hk => absurd hk (by simp)⟩, (qL _ _ _ (by simp only [qab]; omega)).trans (qM _ _ _ rfl)⟩, qH (qb1 (qb1 qB qN) qN)⟩
 case round =>
  clear hmk
  obtain ⟨k, vs, hk, rfl, hI, hB⟩ := hrel
  by_cases hkn : k < n
  ·have hki : (k : Int) < n := by omega
   have hkl : k < l.length := by have := HC.out.2.2; omega
   have haw := HC.out.1.addr (by omega)
   subst haw
   have hc := (HC.out.1.below hB.out).cell k hkl
   have hok := HC.out.2.1 k hkl
   have hdt := qlw l k hkl
   have hfd : fden (l.getD k fd0) = (ival (l.getD k fd0).2.data.toList).natAbs := rfl
   rw [hfd] at hdt
   obtain ⟨N, hN⟩ : ∃ N, (l.getD k fd0).1 = N := ⟨_, rfl⟩
   obtain ⟨D, hD⟩ : ∃ D, (l.getD k fd0).2 = D := ⟨_, rfl⟩
   rw [hN, hD] at hc
   rw [hD] at hdt hok
   obtain ⟨hc0, hc1⟩ := hc
   have HN := qH (fun W => least.qcO D hok.vd W)
   have HD := qH hdt
   clear hok hdt hfd hN hD
   go_wp2_with fail
   refine (HN.out _).mono ?_
   rintro e w2 ⟨v2, rfl, hb2, hv2⟩
   obtain ⟨m2, rfl, hg2⟩ := hv2
   have hb02 : Below wr.heap.size wr w2 := (qB.alloc qN _).trans (hb2.mono (by simp only [qab]; omega))
   have hp2 := hI.out.2.1.below hb02
   have hat := hp2.at (by have := hI.out.1; omega)
   rw [hI.out.1] at hat
   obtain ⟨hat0, hat1⟩ := hat
   have hset := hp2.set (by have := hI.out.1; omega) m2 (qjz hg2)
   rw [hI.out.1] at hset
   have hms := (((hI.out.2.2.1.below hb02).snoc hg2).keep (least.qcb w2 (w.heap.size + 1) k m2) hp2.1 hp2.nope)
   rw [← HD.out] at hms
   have hr3 := (Below.heap_setCell w2 ⟨w.heap.size + 1, k, none⟩ m2 w.heap.size (by show w.heap.size ≠ w.heap.size + 1; omega)).trans ((hb02.block _ (qG hI.out.2.2.2).1).trans hI.out.2.2.2)
   have hbb := (hB.out.trans (hb02.mono hB.out.size)).setCell (p := ⟨w.heap.size + 1, k, none⟩) (by show w.heap.size ≤ w.heap.size + 1; omega) m2
   have H3 := qH (qA hset (qA hms (qA hr3 hbb)))
   obtain ⟨s2, _, _, u2, t2, _, rfl, _, _⟩ := hg2
   clear hb2 hb02 hp2 hset hms hr3 hbb hc0 hc1
   go_wp2_with fail
   go_roundw
   case rel => exact ⟨k + 1, _, hkn, by go_num, qH ⟨by rw [qaj, hI.out.1]; rfl, H3.out.1, H3.out.2.1, H3.out.2.2.1⟩, qH H3.out.2.2.2⟩
   case measure => simp [intOf]; omega
  ·obtain rfl : k = n := by omega
   have hll := HC.out.2.2
   have hmm := hI.out.2.2.1
   rw [qal (by omega)] at hmm
   have hxk : ∀ j, j < k → 0 < (l.map fden).getD j 0 ∧ Fit ((l.map fden).getD j 0) 67 := by
    intro j hj
    have e : (l.map fden).getD j 0 = fden (l.getD j fd0) := by
     rw [qac, qav, qac, qai (by omega)]; rfl
    rw [e]; exact qel HC.out.2.1 (by omega)
   have hcm := qhA (some ⟨w.heap.size + 1, 0, none⟩) (w.heap.size + 1) 0 k k vs (l.map fden) 67 wr (by rw [qaG]; exact hll) (hI.out.2.1.cells hI.out.1) hmm hxk (by omega) (by decide) (by omega)
   have HCM := qH hcm
   clear hcm hxk hmm hll
   go_wp2_with fail
   refine HCM.out.mono ?_
   rintro e w2 ⟨v2, rfl, hb2, hv2⟩
   obtain ⟨W3, hW3⟩ : ∃ W3, W3 = w2.setCell ⟨w.heap.size, 0, none⟩ v2 := ⟨_, rfl⟩
   have hr2 := (hb2.block _ (qG hI.out.2.2.2).1).trans hI.out.2.2.2
   have hc2 := cell_of_row _ _ 0 _ _ _ hr2
   have hf2 := frozen_of_row _ _ 0 _ _ hr2
   have hm3 := qcC hv2 (least.qcb w2 w.heap.size 0 v2) hr2 (by intro x hx d; rw [qaq.1 hx]; intro e; cases e)
   have hr3 : (w2.setCell ⟨w.heap.size, 0, none⟩ v2).heap[w.heap.size]? = some (.cells #[v2] 81 (0, 0)) := heap_setCell_same w2 w.heap.size 0 _ _ v2 hr2
   have hb3 := (hB.out.trans (hb2.mono hB.out.size)).setCell (p := ⟨w.heap.size, 0, none⟩) qN v2
   rw [← hW3] at hm3 hr3 hb3
   have hf67 : Fit (flcd l) 4289 := by
    have := qfJ (l.map fden) 67 (by
     intro j hj
     have hj' : j < l.length := by rw [qaG] at hj; exact hj
     have e : (l.map fden).getD j 0 = fden (l.getD j fd0) := by
      rw [qac, qav, qac, qai hj']; rfl
     rw [e]; exact qel HC.out.2.1 hj') k (by rw [qaG]; have := HC.out.2.2; omega)
    rw [qal (by rw [qaG]; have := HC.out.2.2; omega)] at this
    exact this.mono (by omega)
   have hsz := (qG hr2).1
   have H3 := qH (qA hm3 (qA hr3 (qA hb3 hf67)))
   have HS := qH hsz
   obtain ⟨s2, _, _, u2, t2, _, hsh, _, _⟩ := hv2
   subst hsh
   have hmi := qg9 k (by omega) W3
   clear hb2 hr2 hm3 hr3 hb3 hI hB HCM hf67 hsz
   go_wp2_with fail
   rw [← hW3]
   have hws : W3.heap.size = w2.heap.size := by rw [hW3]; exact qbo ..
   rw [hws] at hmi
   rw [hmi]
   clear hW3
   go_wp2_with fail
   go_loopw [36] (fun x36 W => ∃ (j : Nat) (ps : List (Value × Bool)), j ≤ k ∧ x36 = .int .i64 j ∧ Hid (ps.length = j ∧ IRow W w2.heap.size k ps ∧ qcH W ps (ftop l) ∧ W.heap[w.heap.size]? = some (.cells #[.slice s2 t2 u2] 81 (0, 0)) ∧ MagAt W (.slice s2 t2 u2) (flcd l)) ∧ Hid (Below w.heap.size w W)) (fun x36 _ => k - (intOf x36).toNat)
   case atStart =>
    have h0 := IRow.made W3 k
    rw [hws] at h0
    have hb4 : Below W3.heap.size W3 (W3.alloc (.cells (madeCells #[zs0, .bool false] (k * 2)) 105)) := qb1 qB qN
    exact ⟨0, [], qar _, rfl, qH ⟨rfl, h0, (fun i hi => absurd hi (by simp)), (hb4.block _ (qG H3.out.2.1).1).trans H3.out.2.1, H3.out.1.below hb4⟩, qH (H3.out.2.2.1.trans (hb4.mono H3.out.2.2.1.size))⟩
   case round =>
    clear hmi
    obtain ⟨j, ps, hj, rfl, hI4, hB4⟩ := hrel
    by_cases hjk : j < k
    ·have hji : (j : Int) < k := by omega
     have hjl : j < l.length := by have := HC.out.2.2; omega
     have haw := HC.out.1.addr (by omega)
     subst haw
     have hc := (HC.out.1.below hB4.out).cell j hjl
     have hok := HC.out.2.1 j hjl
     have hft : ftop l j = ival (l.getD j fd0).1.data.toList * ((flcd l / (ival (l.getD j fd0).2.data.toList).natAbs : Nat) : Int) := rfl
     obtain ⟨N, hN⟩ : ∃ N, (l.getD j fd0).1 = N := ⟨_, rfl⟩
     obtain ⟨D, hD⟩ : ∃ D, (l.getD j fd0).2 = D := ⟨_, rfl⟩
     rw [hN, hD] at hc hok hft
     obtain ⟨hc0, hc1⟩ := hc
     have HW := qH (qA hok hft)
     clear hok hft hN hD
     go_wp2_with fail
     have hb41 : Below wr.heap.size wr (wr.alloc (.cells #[.string N, .string D] 46)) := qb1 qB qN
     refine (qmV N D HW.out.1 w.heap.size s2 t2 u2 (flcd l) 4289 (by omega) (by omega) _ ((hb41.block _ (qG hI4.out.2.2.2.1).1).trans hI4.out.2.2.2.1) (hI4.out.2.2.2.2.below hb41) H3.out.2.2.2).mono ?_
     rintro e w5 ⟨v5, rfl, hb5, hi5⟩
     rw [← HW.out.2] at hi5
     have hb45 : Below wr.heap.size wr w5 := hb41.trans (hb5.mono hb41.size)
     have hp5 := hI4.out.2.1.below hb45
     have hps := hI4.out.1
     obtain ⟨v6, rfl, hg6⟩ := hi5
     have hat := hp5.at (by omega)
     rw [hps] at hat
     obtain ⟨⟨hat0, hat1⟩, hfz⟩ := hat
     have hz0 := hfz (j * 2)
     have hz1 := hfz (j * 2 + 1)
     have hset := hp5.set (by omega) v6 (decide (ftop l j < 0)) (qjz hg6)
     rw [hps] at hset
     have hkp := qca (least.qcb w5 w2.heap.size (j * 2) v6) (least.qcb _ w2.heap.size (j * 2 + 1) (.bool (decide (ftop l j < 0))))
     have hps2 := ((hI4.out.2.2.1.below hb45).snoc (by rw [hps]; exact hg6)).keep hkp hp5.1 hp5.nope
     rw [hps] at hps2
     have hne : w.heap.size ≠ w2.heap.size := Nat.ne_of_lt HS.out
     have hr6 := (Below.heap_setCell (w5.setCell ⟨w2.heap.size, j * 2, none⟩ v6) ⟨w2.heap.size, j * 2 + 1, none⟩ (.bool (decide (ftop l j < 0))) w.heap.size hne).trans ((Below.heap_setCell w5 ⟨w2.heap.size, j * 2, none⟩ v6 w.heap.size hne).trans ((hb45.block _ (qG hI4.out.2.2.2.1).1).trans hI4.out.2.2.2.1))
     have hm6 := qcC (hI4.out.2.2.2.2.below hb45) hkp hp5.1 hp5.nope
     have hb6 := ((hB4.out.trans (hb45.mono hB4.out.size)).setCell (p := ⟨w2.heap.size, j * 2, none⟩) (qao HS.out) v6).setCell (p := ⟨w2.heap.size, j * 2 + 1, none⟩) (qao HS.out) (.bool (decide (ftop l j < 0)))
     have H6 := qH (qA hset (qA hps2 (qA hr6 (qA hm6 hb6))))
     have HP := qH hps
     obtain ⟨s6, _, _, u6, t6, _, rfl, _, _⟩ := hg6
     clear hset hps2 hr6 hm6 hb6 hkp hp5 hb45 hb5 hb41 hps hfz hc0 hc1
     go_wp2_with fail
     go_roundw
     case rel => exact ⟨j + 1, _, hjk, by go_num, qH ⟨by rw [qaj, HP.out]; rfl, H6.out.1, H6.out.2.1, H6.out.2.2.1, H6.out.2.2.2.1⟩, qH H6.out.2.2.2.2⟩
     case measure => simp [intOf]; omega
    ·obtain rfl : j = k := by omega
     have hne : w2.heap.size ≠ w.heap.size := qbK HS.out
     have hrr := heap_setCell_same wr w.heap.size 0 _ _ (.slice s2 t2 u2) hI4.out.2.2.2.1
     have hkp := least.qcb wr w.heap.size 0 (.slice s2 t2 u2)
     have hno : ∀ x ∈ (#[.slice s2 t2 u2] : Array Value).toList, ∀ d, x ≠ .int .u32 d := by intro x hx d; rw [qaq.1 hx]; intro e; cases e
     have HE : Hid (((wr.setCell ⟨w.heap.size, 0, none⟩ (.slice s2 t2 u2)).drew).heap[w.heap.size]? = some (.cells #[.slice s2 t2 u2] 81 (0, 0)) ∧ qcH (wr.setCell ⟨w.heap.size, 0, none⟩ (.slice s2 t2 u2)).drew ps (ftop l) ∧ MagAt (wr.setCell ⟨w.heap.size, 0, none⟩ (.slice s2 t2 u2)).drew (.slice s2 t2 u2) (flcd l) ∧ Below w.heap.size w (wr.setCell ⟨w.heap.size, 0, none⟩ (.slice s2 t2 u2)).drew ∧ ps.length = j ∧ IRow (wr.setCell ⟨w.heap.size, 0, none⟩ (.slice s2 t2 u2)).drew w2.heap.size j ps) := qH ⟨hrr, (hI4.out.2.2.1.keep hkp hI4.out.2.2.2.1 hno).below qB.drew, (qcC hI4.out.2.2.2.2 hkp hI4.out.2.2.2.1 hno).below qB.drew, (hB4.out.setCell (p := ⟨w.heap.size, 0, none⟩) qN _).drew, hI4.out.1, ⟨(Below.heap_setCell wr ⟨w.heap.size, 0, none⟩ (.slice s2 t2 u2) w2.heap.size hne).trans hI4.out.2.1.1, hI4.out.2.1.2⟩⟩
     clear hrr hkp hno hne
     have hz3 := cell_of_row _ _ 0 _ _ _ hI4.out.2.2.2.1
     have hf3 := frozen_of_row _ _ 0 _ _ hI4.out.2.2.2.1
     go_wp2_with fail
     go_region
     all_goals go_wp2_with fail
     all_goals refine bodyPost_ret (v := .tuple #[.slice (some ⟨w2.heap.size, 0, none⟩) j j, .slice s2 t2 u2]) (qk0 rfl _ _ w.heap.size _ Tryz.underlying81 rfl rfl _ _ rfl (cell_of_row _ _ 0 _ _ _ HE.out.1)) rfl ⟨w2.heap.size, _, ps, rfl, qao HS.out, HE.out.2.2.2.1, HE.out.2.2.1, HE.out.2.2.2.2.1, HE.out.2.2.2.2.2, HE.out.2.1⟩
theorem qiC {P : Program} (w : World) (dT sT ty elem : TypeId) (m g dLen dCap : Nat) (a : Addr) (sLen sCap : Nat) (cur : Array Value) (t : TypeId) (cs : List Value)
  (hu : P.underlying dT = some (.slice elem)) (hs : (P.info? elem).map (·.size) = some m)
  (hg : w.heap[g]? = some (.cells cur t (0, 0))) (hn : cs.length = Nat.min sLen dLen * m)
  (hsrc : ∀ j v, cs[j]? = some v → w.cell? (a.add j) = some v) (hfit : 0 + cs.length ≤ cur.size) (h1 : ∀ v ∈ cs, v.oneCell' = true) :
  (Builtin.copy_ #[dT, sT] ty #[.slice (some ⟨g, 0, none⟩) dLen dCap, .slice (some a) sLen sCap]).run P w =
   .ok (goInt (Nat.min sLen dLen : Nat)) (w.setRow g (cur.toList.take 0 ++ cs ++ cur.toList.drop (0 + cs.length)).toArray) := by
 have hl := run_loadCells_list (P := P) w a cs hsrc
 have hst := run_storeCells_at P g 0 t cs 0 cur w hg (by simpa using hfit) h1
 cases hq : P.info? elem with
 | none => simp [hq] at hs
 | some i =>
  have hi : i.size = m := by simpa [hq] using hs
  rw [hn] at hl
  simp [Builtin.copy_, run_underlying hu, Builtin.lenOf, Builtin.firstCells, sizeOf, typeInfo, hq, hi, hl, hst]
def fflat (l : List FT) : List Value := l.flatMap fun x => [.string x.1, .string x.2]
theorem qcl (l : List FT) : (fflat l).length = l.length * 2 := by
 induction l with
 | nil => rfl
 | cons p l ih => rw [fflat, List.flatMap_cons, qaj, ← fflat, ih, qbW]; simp; omega
theorem qdY (a b : List FT) : fflat (a ++ b) = fflat a ++ fflat b := by unfold fflat; rw [List.flatMap_append]
theorem qdZ (l : List FT) : ∀ (k : Nat) (x : FT), l[k]? = some x → (fflat l)[k * 2]? = some (.string x.1) ∧ (fflat l)[k * 2 + 1]? = some (.string x.2) := by
 induction l with
 | nil => intro k p h; cases h
 | cons q l ih =>
  intro k p h
  have e : fflat (q :: l) = .string q.1 :: .string q.2 :: fflat l := rfl
  rw [e]
  cases k with
  | zero =>
   have : q = p := qan h
   subst this; exact ⟨rfl, rfl⟩
  | succ k =>
   have h2 := ih k p h
   rw [show (k + 1) * 2 = k * 2 + 1 + 1 by omega]
   exact h2
theorem qg2 (l : List FT) : ∀ v ∈ fflat l, v.oneCell' = true := by
 intro v hv
 obtain ⟨x, _, hx⟩ := List.mem_flatMap.1 hv
 rcases qaL.1 hx with rfl | hx
 ·rfl
 ·rw [qaq.1 hx]; rfl
theorem getD_some {l : List FT} {k : Nat} (hk : k < l.length) : l[k]? = some (l.getD k fd0) := by rw [qac, qai hk]; rfl
theorem FCells.src {W : World} {ao : Option Addr} {b off : Nat} {l : List FT} (h : FCells W ao b off l) : ∀ j v, (fflat l)[j]? = some v → W.cell? ((⟨b, off, none⟩ : Addr).add j) = some v := by
 intro j v hv
 have hj : j < (fflat l).length := (List.getElem?_eq_some_iff.1 hv).1
 rw [qcl] at hj
 have hk : j / 2 < l.length := by omega
 obtain ⟨h1, h2⟩ := qdZ l (j / 2) _ (getD_some hk)
 obtain ⟨c1, c2⟩ := h.cell (j / 2) hk
 rw [Addr.add_mid]
 by_cases e : j % 2 = 0
 ·rw [show j / 2 * 2 = j by omega] at h1 c1
  rw [h1] at hv
  rw [c1]; exact hv
 ·rw [show j / 2 * 2 + 1 = j by omega] at h2
  rw [show off + j / 2 * 2 + 1 = off + j by omega] at c2
  rw [h2] at hv
  rw [c2]; exact hv
theorem FCells.ofRow {W : World} {g : Nat} {l : List FT} {t : TypeId} {fz : Nat × Nat} (h : W.heap[g]? = some (.cells (fflat l).toArray t fz)) : FCells W (some ⟨g, 0, none⟩) g 0 l := by
 refine ⟨fun _ => rfl, fun k hk => ?_⟩
 obtain ⟨h1, h2⟩ := qdZ l k _ (getD_some hk)
 rw [qaD]
 exact ⟨(cell_of_row _ _ _ _ _ _ h).trans ((qax ..).trans h1), (cell_of_row _ _ _ _ _ _ h).trans ((qax ..).trans h2)⟩
theorem infoF : (Tryz.prog.info? 46).map (fun i => (i.zero, i.size, i.bytes)) = some (some (.agg #[.string ⟨#[]⟩, .string ⟨#[]⟩]), 2, 32) := by kernel_rfl
theorem qkP (n : Nat) (hn : n ≤ 1048576) (w : World) : (Instr.makeSlice 23 (.int .i64 ((n : Int) + 1)) (.int .i64 ((n : Int) + 1))).run Tryz.prog w = .ok (.slice (some ⟨w.heap.size, 0, none⟩) (n + 1) (n + 1)) (w.alloc (.cells (madeCells #[.string ⟨#[]⟩, .string ⟨#[]⟩] ((n + 1) * 2)) 46)) := by
 obtain ⟨i, hi, hz0, hz1, hz2⟩ := info_parts infoF
 have h := run_make (P := Tryz.prog) w 23 46 i _ Tryz.underlying23 hi hz0 .i64 .i64 ((n + 1 : Nat) : Int) ((n + 1 : Nat) : Int) (by omega) (Int.le_refl _) (by rw [hz2]; omega) (by omega)
 rw [hz1, Int.toNat_natCast] at h
 exact h
theorem qmy (l : List FT) (x : FT) (r : List Value) (hr : r.length = 2) : (((fflat l ++ r).toArray.setIfInBounds (l.length * 2) (.string x.1)).setIfInBounds (l.length * 2 + 1) (.string x.2)) = (fflat (l ++ [x])).toArray := by
 obtain ⟨a, b, rfl⟩ : ∃ a b, r = [a, b] := by
  match r, hr with
  | [a, b], _ => exact ⟨a, b, rfl⟩
 rw [qdY, qaa, qaa, qbD _ _ (by rw [qcl]; exact qaf _), qcl, qaN, qad, qbD _ _ (by rw [qcl]; omega), qcl, show l.length * 2 + 1 - l.length * 2 = 1 by omega]
 rfl
theorem qgb (ao : Option Addr) (b off n c : Nat) (l : List FT) (x : FT) (w : World) (hl : l.length = n) (hn0 : 0 < n) (hn : n ≤ 63) (hcells : FCells w ao b off l) :
  Calls Tryz.prog 55 #[.slice ao n c, .agg #[.string x.1, .string x.2]] w fun e w' => ∃ g, e = .returned (.slice (some ⟨g, 0, none⟩) ((n + 1 : Nat)) (n + 1)) ∧ Below w.heap.size w w' ∧ FCells w' (some ⟨g, 0, none⟩) g 0 (l ++ [x]) := by
 obtain ⟨s1, s2⟩ := x
 have haw := hcells.addr (by omega)
 subst haw
 obtain ⟨W1, hW1⟩ : ∃ W1, W1 = w.alloc (.cells #[.string s1, .string s2] 46) := ⟨_, rfl⟩
 have hmk := qkP n (by omega) W1
 obtain ⟨W2, hW2⟩ : ∃ W2, W2 = W1.alloc (.cells (madeCells #[.string ⟨#[]⟩, .string ⟨#[]⟩] ((n + 1) * 2)) 46) := ⟨_, rfl⟩
 have hs1 : W1.heap.size = w.heap.size + 1 := by rw [hW1, qab]
 rw [← hW2, hs1] at hmk
 have hr2 : W2.heap[w.heap.size + 1]? = some (.cells (madeCells #[.string ⟨#[]⟩, .string ⟨#[]⟩] ((n + 1) * 2)) 46 (0, 0)) := by rw [hW2]; exact qM _ _ _ hs1
 have hb1 : Below w.heap.size w W1 := hW1 ▸ qb1 qB qN
 have hb2 : Below w.heap.size w W2 := hW2 ▸ qb1 hb1 qN
 have hcp := qiC (P := Tryz.prog) W2 23 23 3 46 2 (w.heap.size + 1) (n + 1) (n + 1) ⟨b, off, none⟩ n c _ 46 (fflat l) Tryz.underlying23 (by kernel_rfl) hr2 (by rw [qcl, hl]; show n * 2 = (min n (n + 1)) * 2; rw [qaP (by omega)]) (hcells.below hb2).src (by rw [qcl, hl, size_madeCells]; omega) (qg2 l)
 obtain ⟨R, hR⟩ : ∃ R, R = ((madeCells #[.string ⟨#[]⟩, .string ⟨#[]⟩] ((n + 1) * 2) : Array Value)).toList.drop (0 + (fflat l).length) := ⟨_, rfl⟩
 have hRl : R.length = 2 := by rw [hR, qaF, qbi, size_madeCells, qcl]; omega
 rw [← hR, List.take_zero, qbm] at hcp
 obtain ⟨W3, hW3⟩ : ∃ W3, W3 = W2.setRow (w.heap.size + 1) (fflat l ++ R).toArray := ⟨_, rfl⟩
 rw [← hW3] at hcp
 have hr3 : W3.heap[w.heap.size + 1]? = some (.cells (fflat l ++ R).toArray 46 (0, 0)) := by rw [hW3]; exact setRow_heap _ _ _ _ _ _ hr2
 have hb3 : Below w.heap.size w W3 := hW3 ▸ below_setRow hb2 (by omega) _
 have hr0 : W1.heap[w.heap.size]? = some (.cells #[.string s1, .string s2] 46 (0, 0)) := by rw [hW1]; exact qM _ _ _ rfl
 have hb13 : Below W1.heap.size W1 W3 := hW3 ▸ below_setRow (hW2 ▸ qb1 qB qN) (by omega) _
 have hq3 := (hb13.block _ (qG hr0).1).trans hr0
 have hx0 := cell_of_row _ _ 0 _ _ _ hq3
 have hx1 := cell_of_row _ _ 1 _ _ _ hq3
 have hlen : (fflat l ++ R).length = n * 2 + 2 := by rw [qaj, qcl, hRl, hl]
 obtain ⟨d0, hd0⟩ : ∃ d0, W3.cell? ⟨w.heap.size + 1, n * 2, none⟩ = some d0 := ⟨_, (cell_of_row _ _ _ _ _ _ hr3).trans ((qax ..).trans (qai (by omega)))⟩
 obtain ⟨d1, hd1⟩ : ∃ d1, W3.cell? ⟨w.heap.size + 1, n * 2 + 1, none⟩ = some d1 := ⟨_, (cell_of_row _ _ _ _ _ _ hr3).trans ((qax ..).trans (qai (by omega)))⟩
 have hf0 := frozen_of_row _ _ (n * 2) _ _ hr3
 have hf1 := frozen_of_row _ _ (n * 2 + 1) _ _ hr3
 have hset := heap_setCell_same _ _ (n * 2 + 1) _ _ (.string s2) (heap_setCell_same _ _ (n * 2) _ _ (.string s1) hr3)
 rw [← hl, qmy l (s1, s2) R hRl, hl] at hset
 have hbe := (hb3.setCell (p := ⟨w.heap.size + 1, n * 2, none⟩) (by show w.heap.size ≤ w.heap.size + 1; omega) (.string s1)).setCell (p := ⟨w.heap.size + 1, n * 2 + 1, none⟩) (by show w.heap.size ≤ w.heap.size + 1; omega) (.string s2)
 have HE := qH (qA hbe (FCells.ofRow hset))
 have HN := qH (qA hW2 hW1)
 clear hcells hr2 hb1 hb2 hR hRl hW3 hr3 hb3 hr0 hb13 hq3 hlen hset hbe hW2
 go_enter Tryz.func55, Tryz.ntmps55
 go_wp2_with fail
 rw [← hW1]
 clear hW1
 rw [hmk]
 go_wp2_with fail
 go_ret
 exact ⟨_, rfl, HE.out.1, HE.out.2⟩
end Go.Proofs.YtfminfgabiipjaaGreatDoor
