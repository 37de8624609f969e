/- Aa, part 53: Lw1 -/
import Derived.Test.YtfminfgabiipjaaGreatDoorAa0
import Derived.Test.YtfminfgabiipjaaGreatDoorAa50
import Derived.Test.YtfminfgabiipjaaGreatDoorAa52
set_option maxRecDepth 100000
set_option maxHeartbeats 16000000
namespace Go.Proofs.YtfminfgabiipjaaGreatDoor
open Go.RowKit
theorem qeS {W W' : World} {p : Addr} (h : W'.heap[p.block]? = W.heap[p.block]?) : W'.cell? p = W.cell? p := by unfold World.cell?; rw [h]
theorem FCells.same {W W' : World} {ao : Option Addr} {b off : Nat} {l : List FT} (h : FCells W ao b off l) (e : W'.heap[b]? = W.heap[b]?) : FCells W' ao b off l :=
 ⟨h.addr, fun k hk => ⟨(qeS (p := ⟨b, off + k * 2, none⟩) e).trans (h.cell k hk).1, (qeS (p := ⟨b, off + k * 2 + 1, none⟩) e).trans (h.cell k hk).2⟩⟩
theorem VCells.same {W W' : World} {ao : Option Addr} {b off : Nat} {l : List Value} (h : VCells W ao b off l) (e : W'.heap[b]? = W.heap[b]?) : VCells W' ao b off l :=
 ⟨h.addr, fun k hk => (qeS (p := ⟨b, off + k, none⟩) e).trans (h.cell k hk)⟩
theorem SCells.same {W W' : World} {b off : Nat} {l : List ByteArray} (h : SCells W b off l) (e : W'.heap[b]? = W.heap[b]?) : SCells W' b off l :=
 ⟨fun k hk => (qeS (p := ⟨b, off + k, none⟩) e).trans (h.cell k hk)⟩
def FA (B : Nat) (t : TypeId) (sz n : Nat) (xs : List Value) (x : Value) (hs : List Nat) (w : World) : Prop := ∃ g, hs = [g] ∧ x.ownBlock = some g ∧ Rws w B t sz x n xs
def FB (n : Nat) (l : List FT) (x : Value) (hs : List Nat) (w : World) : Prop := ∃ g c, hs = [g] ∧ x = .slice (some ⟨g, 0, none⟩) n c ∧ FCells w (some ⟨g, 0, none⟩) g 0 l
def FV (m : Nat) (vs : List Value) (x : Value) (hs : List Nat) (w : World) : Prop := ∃ g c, hs = [g] ∧ x = .slice (some ⟨g, 0, none⟩) m c ∧ VCells w (some ⟨g, 0, none⟩) g 0 vs
def FC (m : Nat) (vs : List Value) (n : Nat) (l : List FT) (x : Value) (hs : List Nat) (w : World) : Prop :=
 ∃ g c gr rc, hs = [g, gr] ∧ x = .slice (some ⟨g, 0, none⟩) m c ∧ VCells w (some ⟨g, 0, none⟩) g 0 (vs ++ [.slice (some ⟨gr, 0, none⟩) n rc]) ∧ FCells w (some ⟨gr, 0, none⟩) gr 0 l
def FP (n : Nat) (l : List FT) (x : Value) (hs : List Nat) (w : World) : Prop :=
 ∃ g gr rc, hs = [g, gr] ∧ x = .pointer (some ⟨g, 0, none⟩) ∧ w.cell? ⟨g, 0, none⟩ = some (.slice (some ⟨gr, 0, none⟩) n rc) ∧ FCells w (some ⟨gr, 0, none⟩) gr 0 l
def FS (s : ByteArray) (x : Value) (hs : List Nat) (w : World) : Prop := ∃ g, hs = [g] ∧ x = .slice (some ⟨g, 0, none⟩) 1 1 ∧ SCells w g 0 [s]
def Stab (F : Value → List Nat → World → Prop) : Prop := ∀ x hs w w', F x hs w → (∀ g ∈ hs, w'.heap[g]? = w.heap[g]?) → F x hs w'
theorem FA.stab (B : Nat) (t : TypeId) (sz n : Nat) (xs : List Value) : Stab (FA B t sz n xs) := by
 rintro x hs w w' ⟨g, rfl, hx, h1, h2⟩ he
 refine ⟨g, rfl, hx, h1, ?_⟩
 rcases h2 with ⟨rfl, _⟩ | ⟨g', cap, cur, rfl, a1, a2, a3⟩
 ·cases hx
 ·obtain rfl : g' = g := qan hx
  exact qas ⟨g', cap, cur, rfl, a1, (he g' (by simp)).trans a2, a3⟩
theorem FB.stab (n : Nat) (l : List FT) : Stab (FB n l) := by
 rintro x hs w w' ⟨g, c, rfl, rfl, h⟩ he
 exact ⟨g, c, rfl, rfl, h.same (he g (by simp))⟩
theorem FV.stab (n : Nat) (l : List Value) : Stab (FV n l) := by
 rintro x hs w w' ⟨g, c, rfl, rfl, h⟩ he
 exact ⟨g, c, rfl, rfl, h.same (he g (by simp))⟩
theorem FC.stab (m : Nat) (vs : List Value) (n : Nat) (l : List FT) : Stab (FC m vs n l) := by
 rintro x hs w w' ⟨g, c, gr, rc, rfl, rfl, h, h2⟩ he
 exact ⟨g, c, gr, rc, rfl, rfl, h.same (he g (by simp)), h2.same (he gr (by simp))⟩
theorem FP.stab (n : Nat) (l : List FT) : Stab (FP n l) := by
 rintro x hs w w' ⟨g, gr, rc, rfl, rfl, h, h2⟩ he
 exact ⟨g, gr, rc, rfl, rfl, (qeS (p := ⟨g, 0, none⟩) (he g (by simp))).trans h, h2.same (he gr (by simp))⟩
theorem FS.stab (s : ByteArray) : Stab (FS s) := by
 rintro x hs w w' ⟨g, rfl, rfl, h⟩ he
 exact ⟨g, rfl, rfl, h.same (he g (by simp))⟩
def fl (FL : List (Nat × (Value → List Nat → World → Prop))) (i : Nat) : Value → List Nat → World → Prop := (FL.lookup i).getD fun _ _ _ => True
theorem qhJ {α : Type} {i : Nat} {y : α} : ∀ {l : List (Nat × α)}, l.lookup i = some y → ∃ k, (k, y) ∈ l
 | [], h => by cases h
 | (k, z) :: l, h => by
  rw [List.lookup_cons] at h
  split at h
  ·cases h; exact ⟨k, by simp⟩
  ·obtain ⟨k', hk⟩ := qhJ h
   exact ⟨k', by simp [hk]⟩
theorem qlE {FL : List (Nat × (Value → List Nat → World → Prop))} (h : ∀ p ∈ FL, Stab p.2) : ∀ i x hs w w', fl FL i x hs w → (∀ g ∈ hs, w'.heap[g]? = w.heap[g]?) → fl FL i x hs w' := fun i x hs w w' => by
 unfold fl
 cases e : FL.lookup i with
 | none => exact fun _ _ => trivial
 | some F =>
  obtain ⟨k, hk⟩ := qhJ e
  exact h _ hk x hs w w'
theorem FA.of {w : World} {B B' : Nat} {t : TypeId} {sz n : Nat} {xs : List Value} {v : Value} (h : Rws w B' t sz v n xs) (hB : B ≤ B') (hn : 0 < n) : ∃ g, FA B t sz n xs v [g] w ∧ B' ≤ g ∧ g < w.heap.size := by
 have hl := h.lt
 rcases h.2 with ⟨_, h0⟩ | ⟨g, cap, cur, rfl, a1, a2⟩
 ·omega
 ·exact ⟨g, ⟨g, rfl, rfl, h.1, qas ⟨g, cap, cur, rfl, qam hB a1, a2⟩⟩, hl g rfl⟩
theorem FB.of {w : World} {B n : Nat} {l : List FT} {v : Value} (h : Rws w B 46 2 v n (fflat l)) (hl : l.length = n) (hn : 0 < n) : ∃ g c, v = .slice (some ⟨g, 0, none⟩) n c ∧ FB n l v [g] w ∧ B ≤ g ∧ g < w.heap.size := by
 have hlt := h.lt
 obtain ⟨ao, g, cap, rfl, hf, _⟩ := qe9 h hl
 have := hf.addr (by omega)
 subst this
 exact ⟨g, cap, rfl, ⟨g, cap, rfl, rfl, hf⟩, hlt g rfl⟩
theorem fr_of {w : World} {B n : Nat} {l : List FT} {v : Value} (h : Rws w B 46 2 v n (fflat l)) (hl : l.length = n) (hn : 0 < n) : ∃ g c, v = .slice (some ⟨g, 0, none⟩) n c ∧ FCells w (some ⟨g, 0, none⟩) g 0 l ∧ B ≤ g ∧ g < w.heap.size := by
 obtain ⟨g, c, rfl, ⟨g2, c2, h1, h2, h3⟩, h4⟩ := FB.of h hl hn
 cases h2
 exact ⟨g, c, rfl, h3, h4⟩
theorem at_op {l : List Oper} {i : Nat} {o o' : Oper} (h : nthOp l i = some o) (h' : nthOp l i = some o') : o' = o := by
 rw [h] at h'; exact (qan h').symm
theorem qlc (k : Nat) : Short (fv [0] k) := by
 match k with
 | 0 => exact qeK (q := 0) (by decide +kernel)
 | k + 1 => exact qeK (q := 0) (by decide +kernel)
theorem qjO (k : Nat) : 0 ≤ fv [0] k := by
 match k with
 | 0 => decide +kernel
 | k + 1 => exact (by decide +kernel : (0 : Rat) ≤ 0)
theorem qhE {W : World} {g : Nat} {x1 x2 : ByteArray} {q : Rat} (hq : ftxt q = (x1, x2)) (h : W.heap[g]? = some (.cells #[.string x1, .string x2] 46 (0, 0))) : FCells W (some ⟨g, 0, none⟩) g 0 (told 1 fun _ => q) :=
 ⟨fun _ => rfl, fun k hk => by
  obtain rfl : k = 0 := by rw [qb2] at hk; omega
  rw [qdP (by decide), hq]
  exact ⟨cell_of_row _ _ 0 _ _ _ h, cell_of_row _ _ 1 _ _ _ h⟩⟩
section
variable {md : Region.Mode} {ops : Array Oper} {Q : Exit → Act → World → Prop} {dl : List (Nat × List Nat)} {F : Nat → Value → List Nat → World → Prop} {w0 : World} {i : Nat} {gs : Nat → List Nat} {w : World} {A : Act} {K : Act → World → Prop} {o : Oper} {E : Prop}
theorem Ends.to {d : Option Tmp} (h : Ends dl F w0 i gs w A d K) (hb0 : Below w0.heap.size w0 w) (x : Value) (A' : Act) (w' : World) (hs : List Nat) (hA : A' = A.put d x) (hF : F i x hs w') (hb : Below w.heap.size w w') (hg : ∀ g ∈ hs, (w.heap.size ≤ g ∨ ∃ k ∈ dep dl i, g ∈ gs k) ∧ g < w'.heap.size) : K A' w' := by
 subst hA; exact h.make hb0 x w' hs hF hb hg
theorem new1 {g B : Nat} {w' : World} {p : Nat → Prop} (h : B ≤ g ∧ g < w'.heap.size) : ∀ x ∈ [g], (B ≤ x ∨ p x) ∧ x < w'.heap.size := fun x hx => by
 rw [qaq.1 hx]; exact ⟨qaA h.1, h.2⟩
theorem new2 {g k B : Nat} {w' : World} {p : Nat → Prop} (h : B ≤ g ∧ g < w'.heap.size) (h2 : (B ≤ k ∨ p k) ∧ k < w'.heap.size) : ∀ x ∈ [g, k], (B ≤ x ∨ p x) ∧ x < w'.heap.size := fun x hx => by
 rcases qaL.1 hx with rfl | hx
 ·exact ⟨qaA h.1, h.2⟩
 ·rw [qaq.1 hx]; exact h2
theorem olds {k : Nat} {hs : List Nat} (hk : k ∈ dep dl i) (hgs : gs k = hs) (hlt : ∀ g ∈ gs k, w0.heap.size ≤ g ∧ g < w.heap.size) : ∀ x ∈ hs, (w.heap.size ≤ x ∨ ∃ k ∈ dep dl i, x ∈ gs k) ∧ x < w.heap.size := fun x hx =>
 ⟨qas ⟨k, hk, hgs ▸ hx⟩, (hlt x (hgs ▸ hx)).2⟩
theorem grown1 {x : Nat} {o : Obj} {p : Prop} (h : p ∧ x < w.heap.size) : p ∧ x < (w.alloc o).heap.size := ⟨h.1, by rw [qab]; exact Nat.lt_succ_of_lt h.2⟩
theorem qjm {w' : World} {B n sz : Nat} {t : TypeId} {v v' : Value} {xs : List Value} {g : Nat} (h : Rws w' B t sz v' n xs) (_hn : 0 < n) (hv : v.ownBlock = some g) (hg : v'.ownBlock = v.ownBlock ∨ v'.ownBlock = some w.heap.size) : ∃ g', v'.ownBlock = some g' ∧ (g' = g ∨ w.heap.size ≤ g') ∧ g' < w'.heap.size := by
 rcases hg with e | e
 ·exact ⟨g, e.trans hv, qaA rfl, (h.lt g (e.trans hv)).2⟩
 ·exact ⟨_, e, qas qN, (h.lt _ e).2⟩
theorem qfT (hgd : o.guard = none) (s x : Operand) (ho : o.op = .call { callee := .builtin .append, args := #[s, x], argTypes := #[23, 23] })
  (hb0 : Below w0.heap.size w0 w) (hK : Ends dl F w0 i gs w A o.dst K) {ks kx n m : Nat} {l l2 : List FT} {v u : Value} (hks : ks ∈ dep dl i) (h1 : FA w0.heap.size 46 2 n (fflat l) v (gs ks) w) (h2 : FB m l2 u (gs kx) w)
  (hs : A.eval s = v) (hx : A.eval x = u) (hl : l.length = n) (hl2 : l2.length = m) (hm0 : 0 < m) (hn : n + m ≤ 1000000) (hF : ∀ x hs w', FB (n + m) (l ++ l2) x hs w' → F i x hs w') : if Region.wanted o (yielded ops A.tmps) = true then Oper.wp Tryz.prog o A w K Q else E := by
 obtain ⟨g, hgs, hv, hown⟩ := h1
 obtain ⟨g2, c2, hgx, rfl, hf2⟩ := h2
 obtain ⟨i0, hi, hz0, hz1, hz2⟩ := info_parts infoF
 refine qdA hgd s x 23 ho w0.heap.size 46 i0 _ 2 32 Tryz.underlying23 hi hz0 hz1 hz2 rfl (by decide) qh4 v n (fflat l) hs hown ⟨g2, 0, none⟩ m c2 (fflat l2) hx (by rw [qcl, hl2]) hf2.src (qg2 l2) (qeW l2) hm0 (by unfold maxLen; omega) (by omega) hb0.size ?_
 intro v' w' ho' hg' hblk
 rw [← qdY] at ho'
 obtain ⟨g', e1, e2, e3⟩ := qjm ho' (by omega) hv hblk
 obtain ⟨g3, c3, rfl, hfb, hg3⟩ := FB.of ho' (by rw [qaj, hl, hl2]) (by omega)
 obtain rfl : g3 = g' := qan e1
 refine hK.write hb0 _ w' [g3] v.ownBlock (hF _ _ _ hfb) hg' (fun g4 h4 => ?_) fun y hy => ?_
 ·rw [hv] at h4; cases h4
  exact ⟨(hown.lt _ hv).1, ks, hks, by rw [hgs]; simp⟩
 ·rw [qaq.1 hy]
  refine ⟨?_, e3⟩
  rcases e2 with rfl | e2
  ·exact qas ⟨ks, hks, by rw [hgs]; simp⟩
  ·exact qaA e2
theorem qjH {w' : World} {B n : Nat} {v' : Value} {vs : List Value} {g' : Nat} (h : Rws w' B 23 1 v' n vs) (e : v'.ownBlock = some g') : ∃ c, v' = .slice (some ⟨g', 0, none⟩) n c ∧ VCells w' (some ⟨g', 0, none⟩) g' 0 vs := by
 obtain ⟨ao, g, c, rfl, hv, _⟩ := h.vcells
 rcases h.2 with ⟨h0, _⟩ | ⟨g4, cap, cur, h4, _⟩
 ·cases h0; cases e
 ·cases h4
  obtain rfl : g4 = g' := qan e
  have hl := h.1
  rw [qbN] at hl
  by_cases h0 : 0 < vs.length
  ·have := hv.addr h0
   cases this
   exact ⟨_, rfl, hv⟩
  ·exact ⟨_, rfl, fun h => absurd h h0, fun k hk => absurd hk (by omega)⟩
theorem vr_of {w' : World} {B n : Nat} {v' : Value} {vs : List Value} (h : Rws w' B 23 1 v' n vs) (hn : 0 < n) : ∃ g c, v' = .slice (some ⟨g, 0, none⟩) n c ∧ VCells w' (some ⟨g, 0, none⟩) g 0 vs ∧ B ≤ g ∧ g < w'.heap.size := by
 obtain ⟨g, ⟨_, h1, h2, _⟩, h3⟩ := FA.of h qN hn
 cases h1
 obtain ⟨c, rfl, hv⟩ := qjH h h2
 exact ⟨_, c, rfl, hv, h3⟩
theorem sep_row (hgd : o.guard = none) (s x : Operand) (ho : o.op = .call { callee := .builtin .append, args := #[s, x], argTypes := #[22, 22] })
  (hb0 : Below w0.heap.size w0 w) (hK : Ends dl F w0 i gs w A o.dst K) {ks kx n m : Nat} {vs : List Value} {l : List FT} {v u : Value} (hks : ks ∈ dep dl i) (hkx : kx ∈ dep dl i) (hap : ∀ g ∈ gs ks, g ∉ gs kx) (h1 : FA w0.heap.size 23 1 n vs v (gs ks) w) (h2 : FC 1 [] m l u (gs kx) w) (hlt : ∀ g ∈ gs kx, g < w.heap.size)
  (hs : A.eval s = v) (hx : A.eval x = u) (hl : vs.length = n) (hn : n + 1 ≤ 1000000) (hF : ∀ x hs w', FC (n + 1) vs m l x hs w' → F i x hs w') : if Region.wanted o (yielded ops A.tmps) = true then Oper.wp Tryz.prog o A w K Q else E := by
 obtain ⟨g, hgs, hv, hown⟩ := h1
 obtain ⟨g2, c2, gr, rc, hgx, rfl, hv2, hf2⟩ := h2
 rw [qbm] at hv2
 obtain ⟨i0, hi, hz0, hz1, hz2⟩ := info_parts qhH
 refine qdA hgd s x 22 ho w0.heap.size 23 i0 _ 1 24 Tryz.underlying22 hi hz0 hz1 hz2 rfl (by decide) qim v n vs hs hown ⟨g2, 0, none⟩ 1 c2 [.slice (some ⟨gr, 0, none⟩) m rc] hx rfl ?c1 (fun u hu => (qhn u hu).2) (fun u hu => (qhn u hu).1) (by decide) (by unfold maxLen; omega) (by omega) hb0.size ?_
 case c1 =>
  intro j u hj
  rw [Addr.add_mid]
  have hjl := (List.getElem?_eq_some_iff.1 hj).1
  rw [hv2.cell j hjl, qac, hj]; rfl
 intro v' w' ho' hg' hblk
 obtain ⟨g', e1, e2, e3⟩ := qjm ho' (by omega) hv hblk
 obtain ⟨c3, rfl, hv3⟩ := qjH ho' e1
 have hgr : gr ∈ gs kx := by rw [hgx]; simp
 have hgrl : gr < w.heap.size := hlt gr hgr
 have hgrne : gr ≠ g := fun e => hap g (by rw [hgs]; simp) (e ▸ hgr)
 have hf3 := hf2.same (hg'.block gr hgrl (fun e => by rw [hv] at e; exact hgrne (qan e)))
 refine hK.write hb0 _ w' [g', gr] v.ownBlock (hF _ _ _ ⟨g', c3, gr, rc, rfl, rfl, hv3, hf3⟩) hg' (fun g4 h4 => ?_) fun y hy => ?_
 ·rw [hv] at h4; cases h4
  exact ⟨(hown.lt _ hv).1, ks, hks, by rw [hgs]; simp⟩
 ·rcases qaL.1 hy with rfl | hy
  ·refine ⟨?_, e3⟩
   rcases e2 with rfl | e2
   ·exact qas ⟨ks, hks, by rw [hgs]; simp⟩
   ·exact qaA e2
  ·rw [qaq.1 hy]
   exact ⟨qas ⟨kx, hkx, hgr⟩, qak hgrl hg'.size⟩
theorem sep_vrow (hgd : o.guard = none) (s x : Operand) (ho : o.op = .call { callee := .builtin .append, args := #[s, x], argTypes := #[22, 22] })
  (hb0 : Below w0.heap.size w0 w) (hK : Ends dl F w0 i gs w A o.dst K) {ks kx n m rc : Nat} {ra : Option Addr} {vs : List Value} {v u : Value} (hks : ks ∈ dep dl i) (h1 : FA w0.heap.size 23 1 n vs v (gs ks) w) (h2 : FV 1 [.slice ra m rc] u (gs kx) w)
  (hs : A.eval s = v) (hx : A.eval x = u) (hl : vs.length = n) (hn : n + 1 ≤ 1000000) (hF : ∀ x hs w', FV (n + 1) (vs ++ [.slice ra m rc]) x hs w' → F i x hs w') : if Region.wanted o (yielded ops A.tmps) = true then Oper.wp Tryz.prog o A w K Q else E := by
 obtain ⟨g, hgs, hv, hown⟩ := h1
 obtain ⟨g2, c2, hgx, rfl, hv2⟩ := h2
 obtain ⟨i0, hi, hz0, hz1, hz2⟩ := info_parts qhH
 refine qdA hgd s x 22 ho w0.heap.size 23 i0 _ 1 24 Tryz.underlying22 hi hz0 hz1 hz2 rfl (by decide) qim v n vs hs hown ⟨g2, 0, none⟩ 1 c2 [.slice ra m rc] hx rfl ?c1 (fun u hu => (qhn u hu).2) (fun u hu => (qhn u hu).1) (by decide) (by unfold maxLen; omega) (by omega) hb0.size ?_
 case c1 =>
  intro j u hj
  rw [Addr.add_mid]
  have hjl := (List.getElem?_eq_some_iff.1 hj).1
  rw [hv2.cell j hjl, qac, hj]; rfl
 intro v' w' ho' hg' hblk
 obtain ⟨g', e1, e2, e3⟩ := qjm ho' (by omega) hv hblk
 obtain ⟨c3, rfl, hv3⟩ := qjH ho' e1
 refine hK.write hb0 _ w' [g'] v.ownBlock (hF _ _ _ ⟨g', c3, rfl, rfl, hv3⟩) hg' (fun g4 h4 => ?_) fun y hy => ?_
 ·rw [hv] at h4; cases h4
  exact ⟨(hown.lt _ hv).1, ks, hks, by rw [hgs]; simp⟩
 ·rw [qaq.1 hy]
  refine ⟨?_, e3⟩
  rcases e2 with rfl | e2
  ·exact qas ⟨ks, hks, by rw [hgs]; simp⟩
  ·exact qaA e2
end
end Go.Proofs.YtfminfgabiipjaaGreatDoor
