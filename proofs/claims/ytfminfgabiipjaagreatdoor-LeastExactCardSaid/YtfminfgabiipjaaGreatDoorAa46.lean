/- Aa, part 46: Cnc -/
import Derived.Lib.AppendZeros
import Derived.LoopN
import Derived.Test.YtfminfgabiipjaaGreatDoorAa0
import Derived.Test.YtfminfgabiipjaaGreatDoorAa42
set_option maxRecDepth 100000
set_option maxHeartbeats 16000000
namespace Go.Proofs.YtfminfgabiipjaaGreatDoor
open Go.RowKit
theorem Rws.blk {w : World} {base : Nat} {e : TypeId} {size : Nat} {v : Value} {n : Nat} {xs : List Value} (h : Rws w base e size v n xs) (hn : 0 < n) : v.ownBlock ≠ none := by
 rcases h.2 with ⟨_, h⟩ | ⟨g, cap, cur, rfl, _⟩
 ·omega
 ·intro e; cases e
theorem qdD {P : Program} (w : World) (base : Nat) (t ty e : TypeId) (i : TypeInfo) (size : Nat) (ht : P.underlying t = some (.slice e)) (hi : P.info? e = some i) (hsize : i.size = size)
  (v : Value) (n : Nat) (xs : List Value) (hown : Rws w base e size v n xs) (hv : v.ownBlock ≠ none) (a : Addr) (c : Nat) :
  ∃ v' w', (Builtin.append_ #[t, t] ty #[v, .slice (some a) 0 c]).run P w = .ok v' w' ∧ Rws w' base e size v' n xs ∧ w.grownBy w' v.ownBlock := by
 subst hsize
 rcases hown.2 with ⟨rfl, rfl⟩ | ⟨g, cap, cur, rfl, hbg, hg, hnc, hcm, hcs, htake, hcn⟩
 ·exact absurd rfl hv
 ·have hr := run_append_room (P := P) w t ty e i ht hi g n cap cur hg a 0 c [] (by simp) (fun j u h => by simp at h) (fun u h => by simp at h) (by omega) (by rw [List.length_nil, hcs]; exact qaZ _ hnc)
  refine ⟨_, _, hr, ⟨hown.1, .inr ⟨g, cap, _, rfl, hbg, setRow_heap w g cur _ e _ hg, hnc, hcm, ?_, ?_, ?_⟩⟩, ⟨rfl, rfl, rfl, by simp, fun k _ hk => setRow_other w g k _ (fun e => hk (by simp [Value.ownBlock, e]))⟩⟩
  ·rw [qbm, List.length_nil, qbb, qa5]; exact hcs
  ·rw [qbm, List.length_nil, qbb, qa5]; exact htake
  ·rw [qbm, List.length_nil, qbb, qa5]; exact hcn
theorem qeQ {P : Program} {w : World} {o : Oper} {a : Act} {K : Act → World → Prop} {Q : Exit → Act → World → Prop} (s x : Operand) (t : TypeId)
  (ho : o.op = .call { callee := .builtin .append, args := #[s, x], argTypes := #[t, t] })
  (base : Nat) (e : TypeId) (i : TypeInfo) (size : Nat) (ht : P.underlying t = some (.slice e)) (hi : P.info? e = some i) (hsize : i.size = size)
  (v : Value) (n : Nat) (xs : List Value) (hs : a.eval s = v) (hown : Rws w base e size v n xs) (hv : v.ownBlock ≠ none) (ad : Addr) (c : Nat) (hx : a.eval x = .slice (some ad) 0 c)
  (h : ∀ v' w', Rws w' base e size v' n xs → w.grownBy w' v.ownBlock → K (a.put o.dst v') w') : Oper.wp P o a w K Q := by
 obtain ⟨v', w', hr, h2, h3⟩ := qdD (P := P) w base t o.type e i size ht hi hsize v n xs hown hv ad c
 unfold Oper.wp execOp
 simp only [ho, resolve, invoke, builtin, Sem.run_bind, Sem.run_pure, Result.andThen_ok, List.map_toArray, qaS, qaX, hs, hx, hr]
 exact h v' w' h2 h3
theorem qiw (W : World) (e : TypeId) (size : Nat) (z : Value) (hzs : z.cells.size = size) (hzn : ∀ x ∈ z.cells.toList, qcv x) (n cap : Nat) (hn : n ≤ cap) (hc : cap ≤ maxLen) {B g : Nat} (hg : g = W.heap.size) (hB : B ≤ g) :
  Rws (W.alloc (.cells (Builtin.zeroCells z.cells n ++ Builtin.zeroCells z.cells (cap - n)) e)) B e size (.slice (some ⟨g, 0, none⟩) 0 cap) 0 [] := by
 subst hg
 refine ⟨by simp, .inr ⟨W.heap.size, cap, _, rfl, hB, heap_alloc_new W _, qaq _, hc, ?_, by simp, fun x hx => ?_⟩⟩
 ·rw [Array.size_append, size_zeroCells, size_zeroCells, hzs, ← qaM]; congr 1; omega
 ·rw [Array.toList_append] at hx
  rcases qa4.1 hx with h | h <;> exact qhW hzn _ x h
section
variable {w : World} {ops : Array Oper} {rest : List Oper} {o : Oper} {a : Act} {Q : Exit → Act → World → Prop}
theorem qfH (hgd : o.guard = none) (s x : Operand)
  (ho : o.op = .call { callee := .builtin .append, args := #[s, x], argTypes := #[23, 23] }) {B : Nat} {v : Value} {n m c b off : Nat} {l l2 : List FT}
  (hBw : B ≤ w.heap.size) (hown : Rws w B 46 2 v n (fflat l)) (hF : FCells w (some ⟨b, off, none⟩) b off l2) (hm : l2.length = m) (hv : v.ownBlock ≠ none) (hs : a.eval s = v) (hx : a.eval x = .slice (some ⟨b, off, none⟩) m c) (hn : n + m ≤ 1000000)
  (h : ∀ v' w', Rws w' B 46 2 v' (n + m) (fflat (l ++ l2)) → w.grownBy w' v.ownBlock → wpList Tryz.prog ops Q rest (a.put o.dst v') w') : wpList Tryz.prog ops Q (o :: rest) a w := by
 rcases qaE m with h0 | h0
 ·subst h0
  obtain rfl : l2 = [] := List.eq_nil_of_length_eq_zero hm
  obtain ⟨i0, hi, hz0, hz1, hz2⟩ := info_parts infoF
  refine wpList_plain hgd fun _ hK => qeQ s x 23 ho B 46 i0 2 Tryz.underlying23 hi hz1 v n (fflat l) hs hown hv ⟨b, off, none⟩ c hx fun v' w' h1 h2 => hK _ _ (h v' w' ?_ h2)
  rw [qbm]; exact h1
 ·exact qgf hgd s x ho hBw hown hF hm h0 hs hx hn h
theorem qgg (hgd : o.guard = none) (s x : Operand)
  (ho : o.op = .call { callee := .builtin .append, args := #[s, x], argTypes := #[22, 22] }) {B : Nat} {v : Value} {n m c b off : Nat} {vs vs2 : List Value}
  (hBw : B ≤ w.heap.size) (hown : Rws w B 23 1 v n vs) (hF : VCells w (some ⟨b, off, none⟩) b off vs2) (hnn : ∀ u ∈ vs2, qcv u ∧ u.oneCell' = true) (hm : vs2.length = m) (hv : v.ownBlock ≠ none) (hs : a.eval s = v) (hx : a.eval x = .slice (some ⟨b, off, none⟩) m c) (hn : n + m ≤ 1000000)
  (h : ∀ v' w', Rws w' B 23 1 v' (n + m) (vs ++ vs2) → w.grownBy w' v.ownBlock → wpList Tryz.prog ops Q rest (a.put o.dst v') w') : wpList Tryz.prog ops Q (o :: rest) a w := by
 rcases qaE m with h0 | h0
 ·subst h0
  obtain rfl : vs2 = [] := List.eq_nil_of_length_eq_zero hm
  obtain ⟨i0, hi, hz0, hz1, hz2⟩ := info_parts qjs
  refine wpList_plain hgd fun _ hK => qeQ s x 22 ho B 23 i0 1 Tryz.underlying22 hi hz1 v n vs hs hown hv ⟨b, off, none⟩ c hx fun v' w' h1 h2 => hK _ _ (h v' w' ?_ h2)
  rw [qbm]; exact h1
 ·exact qg5 hgd s x ho hBw hown hF hnn hm h0 hs hx hn h
end
theorem qj5 (k : Nat) (hk : 0 < k) (hk2 : k ≤ 100000) (w : World) :
  Calls Tryz.prog 104 #[.slice none 0 0, .int .i64 k] w fun e w' => ∃ v, e = .returned v ∧ Rws w' w.heap.size 46 2 v 0 [] ∧ v.ownBlock ≠ none ∧ Below w.heap.size w w' := by
 obtain ⟨i0, hi, hz0, hz1, hz2⟩ := info_parts infoF
 have hrz : ∀ ty, (Builtin.append_ #[23, 3] ty #[.slice none 0 0, .int .i64 k]).run Tryz.prog w = _ := fun ty => Lib.run_append_nil_zeros w 23 3 ty 46 i0 _ .i64 .i64 Tryz.underlying23 Tryz.underlying3 hi hz0 k hk (by rw [hz1]; decide) (by omega) (by rw [hz2]; omega)
 have hc := grownCap_ge w k 0 46
 have hc2 := grownCap_le_maxLen w k 0 46 (by unfold maxLen; omega)
 have hb1 : Below w.heap.size w w.drew := qB.drew
 obtain ⟨G, hG⟩ : ∃ G, G = grownCap w k 0 46 := ⟨_, rfl⟩
 rw [← hG] at hrz hc hc2
 have hGm : G ≤ 9223372036854775807 := by unfold maxLen at hc2; omega
 have HZ := qH (qA (qiw w.drew 46 2 _ rfl qjn k G hc hc2 rfl qN) (qbW (o := .cells (Builtin.zeroCells (Value.cells (.agg #[.string ⟨#[]⟩, .string ⟨#[]⟩])) k ++ Builtin.zeroCells (Value.cells (.agg #[.string ⟨#[]⟩, .string ⟨#[]⟩])) (G - k)) 46) hb1 qN))
 clear hG hc hc2 hb1 hz0 hz1 hz2 hi
 go_enter Tryz.func104, Tryz.ntmps104
 go_wp2_with (first | (at_builtin; refine Lib.wpList_append_run _ rfl _ _ _ _ rfl _ _ rfl rfl _ _ (hrz _) ?_) | fail)
 go_ret
 exact ⟨_, rfl, HZ.out.1, fun e => by (cases e), HZ.out.2⟩
theorem qk1 (k : Nat) (hk : 0 < k) (hk2 : k ≤ 100000) (w : World) :
  Calls Tryz.prog 103 #[.slice none 0 0, .int .i64 k] w fun e w' => ∃ v, e = .returned v ∧ Rws w' w.heap.size 23 1 v 0 [] ∧ v.ownBlock ≠ none ∧ Below w.heap.size w w' := by
 obtain ⟨i0, hi, hz0, hz1, hz2⟩ := info_parts qjs
 have hrz : ∀ ty, (Builtin.append_ #[22, 3] ty #[.slice none 0 0, .int .i64 k]).run Tryz.prog w = _ := fun ty => Lib.run_append_nil_zeros w 22 3 ty 23 i0 _ .i64 .i64 Tryz.underlying22 Tryz.underlying3 hi hz0 k hk (by rw [hz1]; decide) (by omega) (by rw [hz2]; omega)
 have hc := grownCap_ge w k 0 23
 have hc2 := grownCap_le_maxLen w k 0 23 (by unfold maxLen; omega)
 have hb1 : Below w.heap.size w w.drew := qB.drew
 obtain ⟨G, hG⟩ : ∃ G, G = grownCap w k 0 23 := ⟨_, rfl⟩
 rw [← hG] at hrz hc hc2
 have hGm : G ≤ 9223372036854775807 := by unfold maxLen at hc2; omega
 have HZ := qH (qA (qiw w.drew 23 1 _ rfl qlU k G hc hc2 rfl qN) (qbW (o := .cells (Builtin.zeroCells (Value.cells (.slice none 0 0)) k ++ Builtin.zeroCells (Value.cells (.slice none 0 0)) (G - k)) 23) hb1 qN))
 clear hG hc hc2 hb1 hz0 hz1 hz2 hi
 go_enter Tryz.func103, Tryz.ntmps103
 go_wp2_with (first | (at_builtin; refine Lib.wpList_append_run _ rfl _ _ _ _ rfl _ _ rfl rfl _ _ (hrz _) ?_) | fail)
 go_ret
 exact ⟨_, rfl, HZ.out.1, fun e => by (cases e), HZ.out.2⟩
theorem qh4 (g c n1 n2 c1 c2 b1 o1 b2 o2 : Nat) (l1 l2 : List FT) (w : World) (hn0 : 0 < n1) (hn : n1 + n2 ≤ 1000) (h1 : l1.length = n1) (h2 : l2.length = n2)
  (hg : VCells w (some ⟨g, 0, none⟩) g 0 [.slice (some ⟨b1, o1, none⟩) n1 c1, .slice (some ⟨b2, o2, none⟩) n2 c2]) (hF1 : FCells w (some ⟨b1, o1, none⟩) b1 o1 l1) (hF2 : FCells w (some ⟨b2, o2, none⟩) b2 o2 l2) :
  Calls Tryz.prog 45 #[.slice (some ⟨g, 0, none⟩) 2 c] w fun e w' => ∃ v, e = .returned v ∧ Rws w' w.heap.size 46 2 v (n1 + n2) (fflat (l1 ++ l2)) ∧ Below w.heap.size w w' := by
 have x0 : ∀ W, Below w.heap.size w W → W.cell? ⟨g, 0, none⟩ = some (.slice (some ⟨b1, o1, none⟩) n1 c1) := fun W h => (hg.below h).cell 0 (Nat.succ_pos _)
 have x1 : ∀ W, Below w.heap.size w W → W.cell? ⟨g, 0 + 1, none⟩ = some (.slice (some ⟨b2, o2, none⟩) n2 c2) := fun W h => (hg.below h).cell 1 (Nat.lt_succ_self _)
 have X := qH (qA x0 x1)
 have Y := qH (qA h1 (qA h2 (qA hF1 hF2)))
 skip
 clear x0 x1 hg h1 h2 hF1 hF2
 have y0 := X.out.1 w qB
 have y1 := X.out.2 w qB
 rw [qaK] at y1
 go_enter Tryz.func45, Tryz.ntmps45
 go_wp2_with fail
 refine wp_loop_rounds 3 ?_
 rw [rounds_succ]
 go_wp2_with fail
 rw [rounds_succ]
 go_wp2_with fail
 rw [rounds_succ]
 go_wp2_with fail
 have e12 : ((n1 : Int) + (n2 : Int)) = ((n1 + n2 : Nat) : Int) := by omega
 rw [e12]
 refine (qj5 (n1 + n2) (by omega) (by omega) w).mono ?_
 rintro e w2 ⟨v2, rfl, hr2, hv2, hb2⟩
 obtain ⟨ao2, cp2, hsh⟩ := hr2.shape
 have K2 := qH (qA hr2 (qA hv2 hb2))
 clear hr2 hv2 hb2 y0 y1
 have y0 := X.out.1 w2 K2.out.2.2
 have y1 := X.out.2 w2 K2.out.2.2
 rw [qaK] at y1
 clear hsh e12
 go_wp2_with fail
 refine wp_loop_rounds 3 ?_
 rw [rounds_succ]
 go_wp2_with (first | (at_builtin; refine qfH (l := []) (n := 0) rfl _ _ rfl K2.out.2.2.size K2.out.1 ((Y.out.2.2.1).below K2.out.2.2) Y.out.1 K2.out.2.1 rfl rfl (by omega) ?_; intro v3 w3 ho3 hg3) | fail)
 have hb3 := ho3.lt
 have HB3 : Below w.heap.size w w3 := K2.out.1.old hg3 K2.out.2.2 qN K2.out.2.2.size
 rw [qbn, qaK] at ho3
 have K3 := qH (qA ho3 (qA (ho3.blk hn0) HB3))
 clear ho3 hg3 HB3 hb3 K2 y0 y1
 have y1 := X.out.2 w3 K3.out.2.2
 rw [qaK] at y1
 rw [rounds_succ]
 go_wp2_with (first | (at_builtin; refine qfH (l := l1) (n := n1) rfl _ _ rfl K3.out.2.2.size K3.out.1 ((Y.out.2.2.2).below K3.out.2.2) Y.out.2.1 K3.out.2.1 rfl rfl (by omega) ?_; intro v4 w4 ho4 hg4) | fail)
 have HB4 : Below w.heap.size w w4 := K3.out.1.old hg4 K3.out.2.2 qN K3.out.2.2.size
 have K4 := qH (qA ho4 HB4)
 clear ho4 hg4 HB4 K3 y1
 rw [rounds_succ]
 go_wp2_with fail
 go_ret
 exact ⟨v4, rfl, K4.out.1, K4.out.2⟩
theorem qiM (g c n1 n2 c1 c2 b1 o1 b2 o2 : Nat) (l1 l2 : List Value) (w : World) (hn0 : 0 < n1) (hn : n1 + n2 ≤ 1000) (h1 : l1.length = n1) (h2 : l2.length = n2)
  (hg : VCells w (some ⟨g, 0, none⟩) g 0 [.slice (some ⟨b1, o1, none⟩) n1 c1, .slice (some ⟨b2, o2, none⟩) n2 c2]) (hF1 : VCells w (some ⟨b1, o1, none⟩) b1 o1 l1) (hF2 : VCells w (some ⟨b2, o2, none⟩) b2 o2 l2) (hk1 : ∀ u ∈ l1, qcv u ∧ u.oneCell' = true) (hk2 : ∀ u ∈ l2, qcv u ∧ u.oneCell' = true) :
  Calls Tryz.prog 44 #[.slice (some ⟨g, 0, none⟩) 2 c] w fun e w' => ∃ v, e = .returned v ∧ Rws w' w.heap.size 23 1 v (n1 + n2) (l1 ++ l2) ∧ Below w.heap.size w w' := by
 have x0 : ∀ W, Below w.heap.size w W → W.cell? ⟨g, 0, none⟩ = some (.slice (some ⟨b1, o1, none⟩) n1 c1) := fun W h => (hg.below h).cell 0 (Nat.succ_pos _)
 have x1 : ∀ W, Below w.heap.size w W → W.cell? ⟨g, 0 + 1, none⟩ = some (.slice (some ⟨b2, o2, none⟩) n2 c2) := fun W h => (hg.below h).cell 1 (Nat.lt_succ_self _)
 have X := qH (qA x0 x1)
 have Y := qH (qA h1 (qA h2 (qA hF1 hF2)))
 have HN := qH (qA hk1 hk2)
 clear x0 x1 hg h1 h2 hF1 hF2 hk1 hk2
 have y0 := X.out.1 w qB
 have y1 := X.out.2 w qB
 rw [qaK] at y1
 go_enter Tryz.func44, Tryz.ntmps44
 go_wp2_with fail
 refine wp_loop_rounds 3 ?_
 rw [rounds_succ]
 go_wp2_with fail
 rw [rounds_succ]
 go_wp2_with fail
 rw [rounds_succ]
 go_wp2_with fail
 have e12 : ((n1 : Int) + (n2 : Int)) = ((n1 + n2 : Nat) : Int) := by omega
 rw [e12]
 refine (qk1 (n1 + n2) (by omega) (by omega) w).mono ?_
 rintro e w2 ⟨v2, rfl, hr2, hv2, hb2⟩
 obtain ⟨ao2, cp2, hsh⟩ := hr2.shape
 have K2 := qH (qA hr2 (qA hv2 hb2))
 clear hr2 hv2 hb2 y0 y1
 have y0 := X.out.1 w2 K2.out.2.2
 have y1 := X.out.2 w2 K2.out.2.2
 rw [qaK] at y1
 clear hsh e12
 go_wp2_with fail
 refine wp_loop_rounds 3 ?_
 rw [rounds_succ]
 go_wp2_with (first | (at_builtin; refine qgg (vs := []) (n := 0) rfl _ _ rfl K2.out.2.2.size K2.out.1 ((Y.out.2.2.1).below K2.out.2.2) HN.out.1 Y.out.1 K2.out.2.1 rfl rfl (by omega) ?_; intro v3 w3 ho3 hg3) | fail)
 have hb3 := ho3.lt
 have HB3 : Below w.heap.size w w3 := K2.out.1.old hg3 K2.out.2.2 qN K2.out.2.2.size
 rw [qbn, qaK] at ho3
 have K3 := qH (qA ho3 (qA (ho3.blk hn0) HB3))
 clear ho3 hg3 HB3 hb3 K2 y0 y1
 have y1 := X.out.2 w3 K3.out.2.2
 rw [qaK] at y1
 rw [rounds_succ]
 go_wp2_with (first | (at_builtin; refine qgg (vs := l1) (n := n1) rfl _ _ rfl K3.out.2.2.size K3.out.1 ((Y.out.2.2.2).below K3.out.2.2) HN.out.2 Y.out.2.1 K3.out.2.1 rfl rfl (by omega) ?_; intro v4 w4 ho4 hg4) | fail)
 have HB4 : Below w.heap.size w w4 := K3.out.1.old hg4 K3.out.2.2 qN K3.out.2.2.size
 have K4 := qH (qA ho4 HB4)
 clear ho4 hg4 HB4 K3 y1
 rw [rounds_succ]
 go_wp2_with fail
 go_ret
 exact ⟨v4, rfl, K4.out.1, K4.out.2⟩
end Go.Proofs.YtfminfgabiipjaaGreatDoor
