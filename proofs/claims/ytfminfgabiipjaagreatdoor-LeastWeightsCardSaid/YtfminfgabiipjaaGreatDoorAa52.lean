/- Aa, part 52: Js -/
import Derived.Maps.AppendAt
import Derived.Test.YtfminfgabiipjaaGreatDoorAa0
import Derived.Test.YtfminfgabiipjaaGreatDoorAa4
import Derived.Test.YtfminfgabiipjaaGreatDoorAa43
set_option maxRecDepth 100000
set_option maxHeartbeats 16000000
namespace Go.Proofs.YtfminfgabiipjaaGreatDoor
open Go Go.RowKit
section
variable {P : Program} {ops : Array Oper} {Q : Exit → Act → World → Prop} {md : Region.Mode} {S : World → Prop}
def dep (dl : List (Nat × List Nat)) (i : Nat) : List Nat := (dl.lookup i).getD []
def Live (dl : List (Nat × List Nat)) (T : List Nat) (n0 : Nat) (L : Nat → Bool) (i : Nat) : Prop := i < n0 ∧ i ∉ T ∧ L i = true ∧ ∀ j, j < n0 → i ∈ dep dl j → L j = false
structure Sepd (md : Region.Mode) (ops : Array Oper) (dl : List (Nat × List Nat)) (T : List Nat) (n0 : Nat) (F : Nat → Value → List Nat → World → Prop) (w0 : World) (L : Nat → Bool) (v : Nat → Value) (w : World) (gs : Nat → List Nat) : Prop where
 old : Below w0.heap.size w0 w
 top : ∀ i, n0 ≤ i → L i = false
 took : ∀ k ∈ T, L k = true
 shut : ∀ j o, nthOp ops.toList j = some o → L j = true → ∀ k ∈ waits md o, L k = true
 fact : ∀ i, Live dl T n0 L i → F i (v i) (gs i) w
 new : ∀ i, Live dl T n0 L i → ∀ g ∈ gs i, w0.heap.size ≤ g ∧ g < w.heap.size
 apart : ∀ i j, Live dl T n0 L i → Live dl T n0 L j → i ≠ j → ∀ g ∈ gs i, g ∉ gs j
def Ends (dl : List (Nat × List Nat)) (F : Nat → Value → List Nat → World → Prop) (w0 : World) (i : Nat) (gs : Nat → List Nat) (w : World) (A : Act) (d : Option Tmp) (K : Act → World → Prop) : Prop :=
 Shut (∀ (x : Value) (A' : Act) (w' : World) (hs : List Nat), A' = A.put d x → F i x hs w' → (∀ g ∈ hs, (w.heap.size ≤ g ∨ ∃ k ∈ dep dl i, g ∈ gs k) ∧ g < w'.heap.size) → Below w0.heap.size w0 w' → w.heap.size ≤ w'.heap.size →
  (∀ g, g < w.heap.size → (∀ k ∈ dep dl i, g ∉ gs k) → w'.heap[g]? = w.heap[g]?) → K A' w')
def sepB (md : Region.Mode) (ops : Array Oper) (dl : List (Nat × List Nat)) (rl : List (Nat × List Nat)) (T : List Nat) (n0 : Nat) : Bool :=
 ((List.range n0).all fun i => T.contains i || (((nthOp ops.toList i).map fun o => (dep rl i).all fun k => (waits md o).contains k && (!T.contains k && (decide (k < n0) && (List.range n0).all fun j => !(dep dl j).contains k))).getD false)) &&
 ((List.range n0).all fun i => T.contains i || (((nthOp ops.toList i).map fun o => (dep dl i).all fun k => (waits md o).contains k && (!T.contains k && (decide (k < n0) && (List.range n0).all fun j => j == i || !(dep dl j).contains k))).getD false)) &&
 (((List.range n0).all fun k => (List.range (n0 + 1)).any fun j => decide (k < j) && ((nthOp ops.toList j).map fun o => (waits md o).contains k).getD false) &&
 ((List.range ops.size).all fun i => decide (i ≤ n0) || ((nthOp ops.toList i).map fun o => (waits md o).any fun k => decide (n0 ≤ k)).getD false))
theorem qkp {dl rl : List (Nat × List Nat)} {T : List Nat} {n0 : Nat} (h : sepB md ops dl rl T n0 = true) {i : Nat} {o : Oper} (hi : i < n0) (hT : i ∉ T) (ho : nthOp ops.toList i = some o) :
  ∀ k ∈ dep dl i, k ∈ waits md o ∧ k ∉ T ∧ k < n0 ∧ ∀ j, j < n0 → k ∈ dep dl j → j = i := by
 intro k hk
 unfold sepB at h
 rw [qaX, qaX] at h
 have h1 := (qa4.1 h.1.2) i (qbp.2 hi)
 rw [Bool.or_eq_true, ho] at h1
 rcases h1 with h1 | h1
 ·exact absurd (qaZ.1 h1) hT
 ·have h1 : ((dep dl i).all fun k => (waits md o).contains k && (!T.contains k && (decide (k < n0) && (List.range n0).all fun j => j == i || !(dep dl j).contains k))) = true := h1
  have h2 := (qa4.1 h1) k hk
  simp only [qaX, decide_eq_true_eq, Bool.not_eq_true'] at h2
  refine ⟨qaZ.1 h2.1, fun e => ?_, h2.2.2.1, fun j hj hkj => ?_⟩
  ·rw [qaZ.2 e] at h2; exact absurd h2.2.1 (by decide)
  ·have h3 := (qa4.1 h2.2.2.2) j (qbp.2 hj)
   rw [Bool.or_eq_true] at h3
   rcases h3 with h3 | h3
   ·exact eq_of_beq h3
   ·rw [qaZ.2 hkj] at h3; exact absurd h3 (by decide)
theorem qmw {dl rl : List (Nat × List Nat)} {T : List Nat} {n0 : Nat} (h : sepB md ops dl rl T n0 = true) {i : Nat} {o : Oper} (hi : i < n0) (hT : i ∉ T) (ho : nthOp ops.toList i = some o) :
  ∀ k ∈ dep rl i, k ∈ waits md o ∧ k ∉ T ∧ k < n0 ∧ ∀ j, j < n0 → k ∉ dep dl j := by
 intro k hk
 unfold sepB at h
 rw [qaX, qaX] at h
 have h1 := (qa4.1 h.1.1) i (qbp.2 hi)
 rw [Bool.or_eq_true, ho] at h1
 rcases h1 with h1 | h1
 ·exact absurd (qaZ.1 h1) hT
 ·have h1 : ((dep rl i).all fun k => (waits md o).contains k && (!T.contains k && (decide (k < n0) && (List.range n0).all fun j => !(dep dl j).contains k))) = true := h1
  have h2 := (qa4.1 h1) k hk
  simp only [qaX, decide_eq_true_eq, Bool.not_eq_true'] at h2
  refine ⟨qaZ.1 h2.1, fun e => ?_, h2.2.2.1, fun j hj hkj => ?_⟩
  ·rw [qaZ.2 e] at h2; exact absurd h2.2.1 (by decide)
  ·have h3 := (qa4.1 h2.2.2.2) j (qbp.2 hj)
   rw [qaZ.2 hkj] at h3; exact absurd h3 (by decide)
theorem qmx {dl rl : List (Nat × List Nat)} {T : List Nat} {n0 : Nat} (h : sepB md ops dl rl T n0 = true) {k : Nat} (hk : k < n0) : ∃ j o, k < j ∧ j ≤ n0 ∧ nthOp ops.toList j = some o ∧ k ∈ waits md o := by
 unfold sepB at h
 rw [qaX, qaX, qaX] at h
 have h1 := (qa4.1 h.2.1) k (qbp.2 hk)
 obtain ⟨j, hj, hj2⟩ := List.any_eq_true.1 h1
 rw [qaX, decide_eq_true_eq] at hj2
 have hj := qbp.1 hj
 cases e : nthOp ops.toList j with
 | none => rw [e] at hj2; exact absurd hj2.2 (by simp)
 | some o => rw [e] at hj2; exact ⟨j, o, hj2.1, by omega, e, qaZ.1 hj2.2⟩
theorem qmv {dl rl : List (Nat × List Nat)} {T : List Nat} {n0 : Nat} (h : sepB md ops dl rl T n0 = true) {i : Nat} {o : Oper} (hi : n0 < i) (hs : i < ops.size) (ho : nthOp ops.toList i = some o) : ∃ k ∈ waits md o, n0 ≤ k := by
 unfold sepB at h
 rw [qaX, qaX, qaX] at h
 have h1 := (qa4.1 h.2.2) i (qbp.2 hs)
 rw [Bool.or_eq_true, decide_eq_true_eq, ho] at h1
 rcases h1 with h1 | h1
 ·omega
 ·obtain ⟨k, hk, hk2⟩ := List.any_eq_true.1 (show ((waits md o).any fun k => decide (n0 ≤ k)) = true from h1)
  exact ⟨k, hk, of_decide_eq_true hk2⟩
theorem qjy {n : Nat} {L M : Nat → Bool} (h : ∀ i, i < n → L i = M i) : leftN n L = leftN n M := by
 unfold leftN
 congr 1
 exact List.filter_congr fun i hi => by rw [h i (qbp.1 hi)]
theorem Sepd.on {dl rl : List (Nat × List Nat)} {T : List Nat} {n0 : Nat} {F : Nat → Value → List Nat → World → Prop} {w0 : World} {L : Nat → Bool} {v : Nat → Value} {w : World} {gs : Nat → List Nat} (h : Sepd md ops dl T n0 F w0 L v w gs)
  (hst : ∀ i x hs w w', F i x hs w → (∀ g ∈ hs, w'.heap[g]? = w.heap[g]?) → F i x hs w') (hB : sepB md ops dl rl T n0 = true) {i : Nat} {o : Oper} (hi : i < n0) (hT : i ∉ T) (ho : nthOp ops.toList i = some o) (hL : L i = false) (hd : ∀ k ∈ waits md o, L k = true)
  {x : Value} {w' : World} {hs : List Nat} (h1 : F i x hs w') (h2 : ∀ g ∈ hs, (w.heap.size ≤ g ∨ ∃ k ∈ dep dl i, g ∈ gs k) ∧ g < w'.heap.size) (h3 : Below w0.heap.size w0 w') (h4 : w.heap.size ≤ w'.heap.size)
  (h5 : ∀ g, g < w.heap.size → (∀ k ∈ dep dl i, g ∉ gs k) → w'.heap[g]? = w.heap[g]?) : Sepd md ops dl T n0 F w0 (upd L i true) (upd v i x) w' (upd gs i hs) := by
 have hdep := qkp hB hi hT ho
 have hlive : ∀ k ∈ dep dl i, Live dl T n0 L k := fun k hk => by
  obtain ⟨a1, a2, a3, a4⟩ := hdep k hk
  exact ⟨a3, a2, hd k a1, fun j hj hkj => by rw [a4 j hj hkj]; exact hL⟩
 have hback : ∀ j, j ≠ i → Live dl T n0 (upd L i true) j → Live dl T n0 L j ∧ j ∉ dep dl i := fun j hj h => by
  obtain ⟨a1, a2, a3, a4⟩ := h
  rw [qcM _ _ hj] at a3
  refine ⟨⟨a1, a2, a3, fun m hm hjm => ?_⟩, fun e => ?_⟩
  ·by_cases e : m = i
   ·rw [e]; exact hL
   ·have := a4 m hm hjm; rwa [qcM _ _ e] at this
  ·have := a4 i hi e
   rw [upd_same] at this; cases this
 have hout : ∀ j, j ≠ i → Live dl T n0 (upd L i true) j → ∀ g ∈ gs j, g < w.heap.size ∧ ∀ k ∈ dep dl i, g ∉ gs k := fun j hj hl g hg => by
  obtain ⟨b1, b2⟩ := hback j hj hl
  exact ⟨(h.new j b1 g hg).2, fun k hk => h.apart j k b1 (hlive k hk) (fun e => b2 (e ▸ hk)) g hg⟩
 refine ⟨h3, fun j hj => ?_, fun k hk => ?_, fun j p hp hj k hk => ?_, fun j hj => ?_, fun j hj g hg => ?_, fun j m hj hm hne g hg => ?_⟩
 ·rw [qcM _ _ (by omega)]; exact h.top j hj
 ·rw [qcM _ _ (by rintro rfl; exact hT hk)]; exact h.took k hk
 ·by_cases e : k = i
  ·rw [e, upd_same]
  ·rw [qcM _ _ e]
   by_cases e2 : j = i
   ·subst e2
    rw [ho] at hp; cases hp
    exact hd k hk
   ·rw [qcM _ _ e2] at hj
    exact h.shut j p hp hj k hk
 ·by_cases e : j = i
  ·subst e; rw [upd_same, upd_same]; exact h1
  ·rw [qcM _ _ e, qcM _ _ e]
   exact hst _ _ _ _ _ (h.fact j (hback j e hj).1) fun g hg => h5 g (hout j e hj g hg).1 (hout j e hj g hg).2
 ·by_cases e : j = i
  ·subst e; rw [upd_same] at hg
   obtain ⟨a1, a2⟩ := h2 g hg
   refine ⟨?_, a2⟩
   rcases a1 with a1 | ⟨k, hk, hgk⟩
   ·exact qam h.old.size a1
   ·exact (h.new k (hlive k hk) g hgk).1
  ·rw [qcM _ _ e] at hg
   have := h.new j (hback j e hj).1 g hg
   exact ⟨this.1, qak this.2 h4⟩
 ·by_cases e : j = i
  ·subst e
   have e2 : m ≠ j := fun e => hne e.symm
   rw [upd_same] at hg
   rw [qcM _ _ e2]
   intro hgm
   obtain ⟨b1, b2⟩ := hout m e2 hm g hgm
   rcases (h2 g hg).1 with a1 | ⟨k, hk, hgk⟩
   ·omega
   ·exact b2 k hk hgk
  ·rw [qcM _ _ e] at hg
   by_cases e2 : m = i
   ·subst e2; rw [upd_same]
    intro hgm
    obtain ⟨b1, b2⟩ := hout j e hj g hg
    rcases (h2 g hgm).1 with a1 | ⟨k, hk, hgk⟩
    ·omega
    ·exact b2 k hk hgk
   ·rw [qcM _ _ e2]
    exact h.apart j m (hback j e hj).1 (hback m e2 hm).1 hne g hg
theorem qla (a : Act) (D : List (Nat × Tmp)) (dl rl : List (Nat × List Nat)) (T : List Nat) (n0 : Nat) (F : Nat → Value → List Nat → World → Prop) (w0 : World) (T2 : List Nat)
  (hst : ∀ i x hs w w', F i x hs w → (∀ g ∈ hs, w'.heap[g]? = w.heap[g]?) → F i x hs w')
  (hdag : dagB md ops = true) (h1 : (D.map (·.1)).Nodup) (h2 : (D.map (·.2)).Nodup) (hdst : dstB ops D T2 = true) (hT2 : ∀ k, k < n0 → k ∈ T2 → k ∈ T) (hB : sepB md ops dl rl T n0 = true) (hn : n0 < ops.size) (kl : Nat) (hkl : leftN ops.size (fun i => decide (i < n0)) = kl)
  (hS : ∀ w, Below w0.heap.size w0 w → S w)
  (hstep : ∀ i o, nthOp ops.toList i = some o → i < n0 → i ∉ T → ∀ (v : Nat → Value) (w : World) (gs : Nat → List Nat), Below w0.heap.size w0 w → (∀ k ∈ dep dl i, F k (v k) (gs k) w) → (∀ k ∈ dep dl i, ∀ g ∈ gs k, w0.heap.size ≤ g ∧ g < w.heap.size) → (∀ k ∈ dep dl i, ∀ j ∈ dep dl i, k ≠ j → ∀ g ∈ gs k, g ∉ gs j) → (∀ k ∈ dep rl i, F k (v k) (gs k) w) →
   ∀ A, A = pf a v D → ∀ K, Ends dl F w0 i gs w A o.dst K → if Region.wanted o (yielded ops A.tmps) = true then Oper.wp P o A w K Q else K (A.put o.dst undef) w)
  (hend : ∀ v w gs, Sepd md ops dl T n0 F w0 (fun i => decide (i < n0)) v w gs → ∀ A, A = pf a v D → ∀ f, wpAnyH P md ops Q S (f + kl) (arr ops.size fun i => decide (i < n0)) A w) :
  ∀ (fuel : Nat) (L : Nat → Bool) (v : Nat → Value) (w : World) (gs : Nat → List Nat), leftN ops.size L ≤ fuel → Sepd md ops dl T n0 F w0 L v w gs → wpAnyH P md ops Q S fuel (arr ops.size L) (pf a v D) w := by
 have fin : ∀ (fuel : Nat) (L : Nat → Bool) (v : Nat → Value) (w : World) (gs : Nat → List Nat), leftN ops.size L ≤ fuel → Sepd md ops dl T n0 F w0 L v w gs → (∀ i, i < n0 → L i = true) → wpAnyH P md ops Q S fuel (arr ops.size L) (pf a v D) w := by
  intro fuel L v w gs hf hJ hall
  have hLe : L = fun i => decide (i < n0) := funext fun i => by
   by_cases h : i < n0
   ·rw [hall i h, decide_eq_true h]
   ·rw [hJ.top i (by omega), decide_eq_false h]
  subst hLe
  rw [hkl] at hf
  obtain ⟨f, rfl⟩ : ∃ f, fuel = f + kl := ⟨fuel - kl, by omega⟩
  exact hend v w gs hJ _ rfl f
 intro fuel
 induction fuel with
 | zero =>
  intro L v w gs hf hJ
  exact fin 0 L v w gs hf hJ fun i hi => qkL (Nat.le_zero.1 hf) i (by omega)
 | succ fuel ih =>
  intro L v w gs hf hJ
  by_cases hall : ∀ i, i < n0 → L i = true
  ·exact fin (fuel + 1) L v w gs hf hJ hall
  refine ⟨fun h0 => absurd (fun i hi => qkR hdag h0 i (by omega)) hall, fun i hi => ?_⟩
  obtain ⟨hin, hL, o, ho, hd⟩ := (qi0 _ L rfl i).1 hi
  have hw : ∀ k ∈ waits md o, L k = true := fun k hk => (qmU hd k hk).2
  have hin0 : i < n0 := by
   apply Classical.byContradiction
   intro hge
   rcases qbk n0 i with hgt | hle
   ·obtain ⟨k, hk, hk2⟩ := qmv hB hgt hin (qdM ho)
    have := hw k hk
    rw [hJ.top k hk2] at this; cases this
   ·obtain rfl : i = n0 := by omega
    refine hall fun k hk => ?_
    have key : ∀ m k, k < i → i - k = m → L k = true := by
     intro m
     induction m using Nat.strongRecOn with
     | ind m ihm =>
      intro k hk hm
      obtain ⟨j, p, h1, h2, h3, h4⟩ := qmx hB hk
      rcases qbk j i with h | h
      ·exact hJ.shut j p h3 (ihm (i - j) (by omega) j h rfl) k h4
      ·obtain rfl : j = i := by omega
       rw [qdM ho] at h3; cases h3
       exact hw k h4
    exact key _ k hk rfl
  have hiT : i ∉ T := fun h => by have := hJ.took i h; rw [hL] at this; cases this
  have hdep := qkp hB hin0 hiT (qdM ho)
  have hlive : ∀ k ∈ dep dl i, Live dl T n0 L k := fun k hk => by
   obtain ⟨a1, a2, a3, a4⟩ := hdep k hk
   exact ⟨a3, a2, hw k a1, fun j hj hkj => by rw [a4 j hj hkj]; exact hL⟩
  refine wpOp_step ho fun K' hK => hstep i o (qdM ho) hin0 hiT v w gs hJ.old (fun k hk => hJ.fact k (hlive k hk)) (fun k hk => hJ.new k (hlive k hk)) (fun k hk j hj => hJ.apart k j (hlive k hk) (hlive j hj)) (fun k hk => hJ.fact k (by obtain ⟨a1, a2, a3, a4⟩ := qmw hB hin0 hiT (qdM ho) k hk; exact ⟨a3, a2, hw k a1, fun j hj hkj => absurd hkj (a4 j hj)⟩)) _ rfl K' fun x A' w' hs hA b1 b2 b3 b4 b5 => ?_
  refine hK _ _ ⟨hS _ b3, ?_⟩
  rw [arr_set]
  have hput : A' = pf a (upd v i x) D := by
   rw [hA]
   have hb := (qa4.1 hdst) i (qbp.2 hin)
   rw [Bool.or_eq_true, qdM ho] at hb
   rcases hb with hb | hb
   ·exact absurd (hT2 i hin0 (qaZ.1 hb)) hiT
   ·cases e : o.dst with
    | none =>
     show pf a v D = _
     refine (qgi a v i x D fun p hp e2 => ?_).symm
     have hb : (!(D.map (·.1)).contains i) = true := by
      have : (match o.dst with | none => !(D.map (·.1)).contains i | some d => D.contains (i, d)) = true := hb
      rw [e] at this; exact this
     rw [Bool.not_eq_true', ← Bool.not_eq_true] at hb
     exact hb (qaZ.2 (List.mem_map.2 ⟨p, hp, e2⟩))
    | some d =>
     have hb : D.contains (i, d) = true := by
      have : (match o.dst with | none => !(D.map (·.1)).contains i | some d => D.contains (i, d)) = true := hb
      rw [e] at this; exact this
     exact pf_put a v x D h1 h2 (qaZ.1 hb)
  rw [hput]
  exact ih _ _ _ _ (by have := qlV hin hL; omega) (hJ.on hst hB hin0 hiT (qdM ho) hL hw b1 b2 b3 b4 b5)
theorem qi5 {fuel : Nat} {listed : Array Bool} {a : Act} {w0 : World} (D : List (Nat × Tmp)) (dl rl : List (Nat × List Nat)) (T : List Nat) (n0 : Nat) (F : Nat → Value → List Nat → World → Prop) (kl m : Nat) (Lz : Array Bool) (hm : a.tmps.size = m)
  (hst : ∀ i x hs w w', F i x hs w → (∀ g ∈ hs, w'.heap[g]? = w.heap[g]?) → F i x hs w')
  (hB : (dagB md ops && (decide ((D.map (·.1)).Nodup) && (decide ((D.map (·.2)).Nodup) && (dstB ops D (T ++ (List.range ops.size).filter fun k => decide (n0 ≤ k)) && ((D.all fun p => decide (D.lookup p.1 = some p.2) && decide (p.2 < m)) && (decide (listed.size = ops.size) && (decide (leftN ops.size (fun k => listed.getD k false) ≤ fuel) &&
   (sepB md ops dl rl T n0 && (decide (n0 < ops.size) && (decide (leftN ops.size (fun i => decide (i < n0)) = kl) && (decide (listed = arr ops.size fun k => T.contains k) && ((T.all fun k => decide (k < n0)) && ((T.all fun k => ((nthOp ops.toList k).map fun o => (waits md o).all fun j => T.contains j).getD false) && decide (Lz = arr ops.size fun i => decide (i < n0))))))))))))))) = true)
  (hS : ∀ w, Below w0.heap.size w0 w → S w)
  (hstep : ∀ i o, nthOp ops.toList i = some o → i < n0 → i ∉ T → ∀ (v : Nat → Value) (w : World) (gs : Nat → List Nat), Below w0.heap.size w0 w → (∀ k ∈ dep dl i, F k (v k) (gs k) w) → (∀ k ∈ dep dl i, ∀ g ∈ gs k, w0.heap.size ≤ g ∧ g < w.heap.size) → (∀ k ∈ dep dl i, ∀ j ∈ dep dl i, k ≠ j → ∀ g ∈ gs k, g ∉ gs j) → (∀ k ∈ dep rl i, F k (v k) (gs k) w) →
   ∀ A, A = pf a v D → ∀ K, Ends dl F w0 i gs w A o.dst K → if Region.wanted o (yielded ops A.tmps) = true then Oper.wp P o A w K Q else K (A.put o.dst undef) w)
  (hend : ∀ (v : Nat → Value) (w : World) (gs : Nat → List Nat), Below w0.heap.size w0 w → (∀ i, i < n0 → i ∉ T → (∀ j, j < n0 → i ∉ dep dl j) → F i (v i) (gs i) w) → ∀ A, A = pf a v D → ∀ f, wpAnyH P md ops Q S (f + kl) Lz A w) : wpAnyH P md ops Q S fuel listed a w0 := by
 simp only [qaX, decide_eq_true_eq] at hB
 obtain ⟨hdag, h1, h2, hdst, hD, hsz, hf, hsep, hn, hkl, hlist, hTn, hTw, hLz⟩ := hB
 have hself : pf a (fun i => a.tmps.getD ((D.lookup i).getD 0) undef) D = a := qmf a _ D fun p hp => by
  have := (qa4.1 hD) p hp
  simp only [qaX, decide_eq_true_eq] at this
  exact ⟨by rw [this.1]; rfl, by rw [hm]; exact this.2⟩
 have hsep0 : Sepd md ops dl T n0 F w0 (fun k => T.contains k) (fun i => a.tmps.getD ((D.lookup i).getD 0) undef) w0 (fun _ => []) :=
  ⟨Below.refl _ _, fun i hi => by
   rw [← Bool.not_eq_true]
   intro h
   have := of_decide_eq_true ((qa4.1 hTn) i (qaZ.1 h)); omega, fun k hk => qaZ.2 hk, fun j o ho hj k hk => by
   have := (qa4.1 hTw) j (qaZ.1 hj)
   rw [ho] at this
   exact (qa4.1 (show ((waits md o).all fun j => T.contains j) = true from this)) k hk, fun i h => absurd (qaZ.1 h.2.2.1) h.2.1, fun i h => absurd (qaZ.1 h.2.2.1) h.2.1, fun i _ h => absurd (qaZ.1 h.2.2.1) h.2.1⟩
 have key := qla (P := P) (Q := Q) (S := S) a D dl rl T n0 F w0 (T ++ (List.range ops.size).filter fun k => decide (n0 ≤ k)) hst hdag h1 h2 hdst (fun k hk hk2 => by
  rcases qa6.1 hk2 with h | h
  ·exact h
  ·have := of_decide_eq_true (List.mem_filter.1 h).2; omega) hsep hn kl hkl hS hstep (fun v w gs h A hA f => by
   rw [← hLz]
   exact hend v w gs h.old (fun i hi hT hc => h.fact i ⟨hi, hT, decide_eq_true hi, fun j hj hij => absurd hij (hc j hj)⟩) A hA f) fuel _ _ _ _ (by rw [qjy (M := fun k => listed.getD k false)]; exact hf; intro i hi; rw [hlist, qh1, if_pos hi]) hsep0
 rw [hself, ← hlist] at key
 exact key
section
variable {dl : List (Nat × List Nat)} {F : Nat → Value → List Nat → World → Prop} {w0 : World} {i : Nat} {gs : Nat → List Nat} {w : World} {A : Act} {d : Option Tmp} {K : Act → World → Prop}
theorem Ends.make (h : Ends dl F w0 i gs w A d K) (hb0 : Below w0.heap.size w0 w) (x : Value) (w' : World) (hs : List Nat) (hF : F i x hs w') (hb : Below w.heap.size w w') (hg : ∀ g ∈ hs, (w.heap.size ≤ g ∨ ∃ k ∈ dep dl i, g ∈ gs k) ∧ g < w'.heap.size) : K (A.put d x) w' :=
 h.out x _ w' hs rfl hF hg (hb0.trans (hb.mono hb0.size)) hb.size fun g hg _ => hb.block g hg
theorem Ends.write (h : Ends dl F w0 i gs w A d K) (hb0 : Below w0.heap.size w0 w) (x : Value) (w' : World) (hs : List Nat) (r : Option Nat) (hF : F i x hs w') (hb : w.grownBy w' r) (hr : ∀ g, r = some g → w0.heap.size ≤ g ∧ ∃ k ∈ dep dl i, g ∈ gs k) (hg : ∀ g ∈ hs, (w.heap.size ≤ g ∨ ∃ k ∈ dep dl i, g ∈ gs k) ∧ g < w'.heap.size) : K (A.put d x) w' :=
 h.out x _ w' hs rfl hF hg (hb0.trans ⟨hb.os, hb.tape, hb.output, hb.size, fun g hg => hb.block g (qak hg hb0.size) fun e => by have := (hr g e.symm).1; omega⟩) hb.size fun g hg hn => hb.block g hg fun e => by
  obtain ⟨_, k, hk, hgk⟩ := hr g e.symm
  exact hn k hk hgk
end
end
end Go.Proofs.YtfminfgabiipjaaGreatDoor
