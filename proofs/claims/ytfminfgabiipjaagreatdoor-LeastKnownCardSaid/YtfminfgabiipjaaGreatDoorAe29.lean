/- Ae, part 29: Js Jg -/
import Derived.Maps.AppendAt
import Derived.Test.YtfminfgabiipjaaGreatDoorAe0
import Derived.Test.YtfminfgabiipjaaGreatDoorAe28
import Derived.Test.YtfminfgabiipjaaGreatDoorAe3
set_option maxRecDepth 100000
set_option maxHeartbeats 16000000
namespace Go.Proofs.YtfminfgabiipjaaGreatDoor
open Go Go.RowKit
section
variable {P:Program} {ops:Array Oper} {Q:Exit→Act→World→Prop} {md:Region.Mode} {S:World→Prop}
def dep (dl:List (Nat×List Nat)) (i:Nat):List Nat:=(dl.lookup i).getD []
def Live (dl:List (Nat×List Nat)) (T:List Nat) (n0:Nat) (L:Nat→Bool) (i:Nat):Prop:=i<n0∧i∉T∧L i=true∧∀j,j<n0→i∈dep dl j→L j=false
structure Sepd (md:Region.Mode) (ops:Array Oper) (dl:List (Nat×List Nat)) (T:List Nat) (n0:Nat) (F:Nat→Value→List Nat→World→Prop) (w0:World) (L:Nat→Bool) (v:Nat→Value) (w:World) (gs:Nat→List Nat):Prop where
 old:Below w0.heap.size w0 w
 top:∀i,n0≤i→L i=false
 took:∀k∈T,L k=true
 shut:∀j o,nthOp ops.toList j=some o→L j=true→∀k∈waits md o,L k=true
 fact:∀i,Live dl T n0 L i→F i (v i) (gs i) w
 new:∀i,Live dl T n0 L i→∀g∈gs i,w0.heap.size≤g∧g<w.heap.size
 apart:∀i j,Live dl T n0 L i→Live dl T n0 L j→i≠j→∀g∈gs i,g∉gs j
def sepB (md:Region.Mode) (ops:Array Oper) (dl:List (Nat×List Nat)) (rl:List (Nat×List Nat)) (T:List Nat) (n0:Nat):Bool :=
 ((List.range n0).all fun i=>T.contains i || (((nthOp ops.toList i).map fun o=>(dep rl i).all fun k=>(waits md o).contains k && (!T.contains k && (decide (k<n0) && (List.range n0).all fun j=>!(dep dl j).contains k))).getD false)) &&
 ((List.range n0).all fun i=>T.contains i || (((nthOp ops.toList i).map fun o=>(dep dl i).all fun k=>(waits md o).contains k && (!T.contains k && (decide (k<n0) && (List.range n0).all fun j=>j == i || !(dep dl j).contains k))).getD false)) &&
 (((List.range n0).all fun k=>(List.range (n0+1)).any fun j=>decide (k<j) && ((nthOp ops.toList j).map fun o=>(waits md o).contains k).getD false) &&
 ((List.range ops.size).all fun i=>decide (i≤n0) || ((nthOp ops.toList i).map fun o=>(waits md o).any fun k=>decide (n0≤k)).getD false))
theorem sepB_dep {dl rl:List (Nat×List Nat)} {T:List Nat} {n0:Nat} (h:sepB md ops dl rl T n0=true) {i:Nat} {o:Oper} (hi:i<n0) (hT:i∉T) (ho:nthOp ops.toList i=some o) :
  ∀k∈dep dl i,k∈waits md o∧k∉T∧k<n0∧∀j,j<n0→k∈dep dl j→j=i:=by
 intro k hk
 unfold sepB at h
 rw [qaR,qaR] at h
 have h1:=(qaV.1 h.1.2) i (qa1.2 hi)
 rw [Bool.or_eq_true,ho] at h1
 rcases h1 with h1 | h1
 ·exact absurd (qaB.1 h1) hT
 ·have h1:((dep dl i).all fun k=>(waits md o).contains k && (!T.contains k && (decide (k<n0) && (List.range n0).all fun j=>j == i || !(dep dl j).contains k)))=true:=h1
  have h2:=(qaV.1 h1) k hk
  simp only [qaR,decide_eq_true_eq,Bool.not_eq_true'] at h2
  refine⟨qaB.1 h2.1,fun e=>?_,h2.2.2.1,fun j hj hkj=>?_⟩
  ·rw [qaB.2 e] at h2;exact absurd h2.2.1 (by decide)
  ·have h3:=(qaV.1 h2.2.2.2) j (qa1.2 hj)
   rw [Bool.or_eq_true] at h3
   rcases h3 with h3 | h3
   ·exact eq_of_beq h3
   ·rw [qaB.2 hkj] at h3;exact absurd h3 (by decide)
theorem qhb {n:Nat} {L M:Nat→Bool} (h:∀i,i<n→L i=M i):leftN n L=leftN n M:=by
 unfold leftN
 congr 1
 exact List.filter_congr fun i hi=>by rw [h i (qa1.1 hi)]
theorem Sepd.on {dl rl:List (Nat×List Nat)} {T:List Nat} {n0:Nat} {F:Nat→Value→List Nat→World→Prop} {w0:World} {L:Nat→Bool} {v:Nat→Value} {w:World} {gs:Nat→List Nat} (h:Sepd md ops dl T n0 F w0 L v w gs)
  (hst:∀i x hs w w',F i x hs w→(∀g∈hs,w'.heap[g]? = w.heap[g]?)→F i x hs w') (hB:sepB md ops dl rl T n0=true) {i:Nat} {o:Oper} (hi:i<n0) (hT:i∉T) (ho:nthOp ops.toList i=some o) (hL:L i=false) (hd:∀k∈waits md o,L k=true)
  {x:Value} {w':World} {hs:List Nat} (h1:F i x hs w') (h2:∀g∈hs,(w.heap.size≤g∨∃k∈dep dl i,g∈gs k)∧g<w'.heap.size) (h3:Below w0.heap.size w0 w') (h4:w.heap.size≤w'.heap.size)
  (h5:∀g,g<w.heap.size→(∀k∈dep dl i,g∉gs k)→w'.heap[g]? = w.heap[g]?):Sepd md ops dl T n0 F w0 (upd L i true) (upd v i x) w' (upd gs i hs):=by
 have hdep:=sepB_dep hB hi hT ho
 have hlive:∀k∈dep dl i,Live dl T n0 L k:=fun k hk=>by
  obtain⟨a1,a2,a3,a4⟩:=hdep k hk
  exact⟨a3,a2,hd k a1,fun j hj hkj=>by rw [a4 j hj hkj];exact hL⟩
 have hback:∀j,j≠i→Live dl T n0 (upd L i true) j→Live dl T n0 L j∧j∉dep dl i:=fun j hj h=>by
  obtain⟨a1,a2,a3,a4⟩:=h
  rw [qbD _ _ hj] at a3
  refine⟨⟨a1,a2,a3,fun m hm hjm=>?_⟩,fun e=>?_⟩
  ·by_cases e:m=i
   ·rw [e];exact hL
   ·have:=a4 m hm hjm;rwa [qbD _ _ e] at this
  ·have:=a4 i hi e
   rw [upd_same] at this;cases this
 have hout:∀j,j≠i→Live dl T n0 (upd L i true) j→∀g∈gs j,g<w.heap.size∧∀k∈dep dl i,g∉gs k:=fun j hj hl g hg=>by
  obtain⟨b1,b2⟩:=hback j hj hl
  exact⟨(h.new j b1 g hg).2,fun k hk=>h.apart j k b1 (hlive k hk) (fun e=>b2 (e▸hk)) g hg⟩
 refine⟨h3,fun j hj=>?_,fun k hk=>?_,fun j p hp hj k hk=>?_,fun j hj=>?_,fun j hj g hg=>?_,fun j m hj hm hne g hg=>?_⟩
 ·rw [qbD _ _ (by omega)];exact h.top j hj
 ·rw [qbD _ _ (by rintro rfl;exact hT hk)];exact h.took k hk
 ·by_cases e:k=i
  ·rw [e,upd_same]
  ·rw [qbD _ _ e]
   by_cases e2:j=i
   ·subst e2
    rw [ho] at hp;cases hp
    exact hd k hk
   ·rw [qbD _ _ e2] at hj
    exact h.shut j p hp hj k hk
 ·by_cases e:j=i
  ·subst e;rw [upd_same,upd_same];exact h1
  ·rw [qbD _ _ e,qbD _ _ e]
   exact hst _ _ _ _ _ (h.fact j (hback j e hj).1) fun g hg=>h5 g (hout j e hj g hg).1 (hout j e hj g hg).2
 ·by_cases e:j=i
  ·subst e;rw [upd_same] at hg
   obtain⟨a1,a2⟩:=h2 g hg
   refine⟨?_,a2⟩
   rcases a1 with a1 | ⟨k,hk,hgk⟩
   ·exact qak h.old.size a1
   ·exact (h.new k (hlive k hk) g hgk).1
  ·rw [qbD _ _ e] at hg
   have:=h.new j (hback j e hj).1 g hg
   exact⟨this.1,qal this.2 h4⟩
 ·by_cases e:j=i
  ·subst e
   have e2:m≠j:=fun e=>hne e.symm
   rw [upd_same] at hg
   rw [qbD _ _ e2]
   intro hgm
   obtain⟨b1,b2⟩:=hout m e2 hm g hgm
   rcases (h2 g hg).1 with a1 | ⟨k,hk,hgk⟩
   ·omega
   ·exact b2 k hk hgk
  ·rw [qbD _ _ e] at hg
   by_cases e2:m=i
   ·subst e2;rw [upd_same]
    intro hgm
    obtain⟨b1,b2⟩:=hout j e hj g hg
    rcases (h2 g hgm).1 with a1 | ⟨k,hk,hgk⟩
    ·omega
    ·exact b2 k hk hgk
   ·rw [qbD _ _ e2]
    exact h.apart j m (hback j e hj).1 (hback m e2 hm).1 hne g hg
section
variable {dl:List (Nat×List Nat)} {F:Nat→Value→List Nat→World→Prop} {w0:World} {i:Nat} {gs:Nat→List Nat} {w:World} {A:Act} {d:Option Tmp} {K:Act→World→Prop}
end
end
class Stays (p:World→Prop):Prop where
 go:∀{W W':World},p W→Below W.heap.size W W'→p W'
instance stays_and {p q:World→Prop} [hp:Stays p] [hq:Stays q]:Stays fun W=>p W∧q W:=⟨fun h hb=>⟨hp.go h.1 hb,hq.go h.2 hb⟩⟩
instance stays_const {p:Prop}:Stays fun _=>p:=⟨fun h _=>h⟩
instance stays_old {w:World}:Stays fun W=>Below w.heap.size w W:=⟨fun h hb=>h.trans (hb.mono h.size)⟩
instance stays_row {g:Nat} {o:Obj}:Stays fun W=>W.heap[g]? = some o:=⟨fun h hb=>(hb.block g (qG h).1).trans h⟩
instance stays_ex {α:Type} {p:α→World→Prop} [hp:∀x,Stays (p x)]:Stays fun W=>∃x,p x W:=⟨fun⟨x,h⟩ hb=>⟨x,(hp x).go h hb⟩⟩
def Kn (p:World→Prop) (W:World):Prop:=Hid (p W)
theorem Kn.out {p:World→Prop} {W:World} (k:Kn p W):p W:=Hid.out k
theorem Kn.of {p:World→Prop} {W:World} (h:p W):Kn p W:=qH h
theorem Kn.below {p:World→Prop} [hp:Stays p] {W W':World} (k:Kn p W) (hb:Below W.heap.size W W'):Kn p W':=.of (hp.go k.out hb)
theorem Kn.on {p q:World→Prop} [hp:Stays p] {W W':World} (k:Kn p W) (hb:Below W.heap.size W W') (h:q W'):Kn (fun W=>p W∧q W) W':=.of ⟨hp.go k.out hb,h⟩
section
variable {P:Program} {ops:Array Oper} {Q:Exit→Act→World→Prop} {md:Region.Mode} {S:World→Prop}
def growB (md:Region.Mode) (ops:Array Oper) (rl:List (Nat×List Nat)) (T:List Nat) (n0:Nat):Bool :=
 ((List.range n0).all fun i=>T.contains i || (((nthOp ops.toList i).map fun o=>(dep rl i).all fun k=>(waits md o).contains k && (!T.contains k && decide (k<n0))).getD false)) &&
 (((List.range n0).all fun k=>T.contains k || (List.range (n0+1)).any fun j=>decide (k<j) && ((nthOp ops.toList j).map fun o=>(waits md o).contains k).getD false) &&
 ((List.range ops.size).all fun i=>decide (i≤n0) || ((nthOp ops.toList i).map fun o=>(waits md o).any fun k=>decide (n0≤k)).getD false))
section
variable {ops:Array Oper} {md:Region.Mode}
theorem qh4 {rl:List (Nat×List Nat)} {T:List Nat} {n0:Nat} (h:growB md ops rl T n0=true) {i:Nat} {o:Oper} (hi:i<n0) (hT:i∉T) (ho:nthOp ops.toList i=some o):∀k∈dep rl i,k∈waits md o∧k∉T∧k<n0:=by
 intro k hk
 unfold growB at h
 rw [qaR] at h
 have h1:=(qaV.1 h.1) i (qa1.2 hi)
 rw [Bool.or_eq_true,ho] at h1
 rcases h1 with h1 | h1
 ·exact absurd (qaB.1 h1) hT
 ·have h2:=(qaV.1 (show ((dep rl i).all fun k=>(waits md o).contains k && (!T.contains k && decide (k<n0)))=true from h1)) k hk
  simp only [qaR,decide_eq_true_eq,Bool.not_eq_true'] at h2
  refine⟨qaB.1 h2.1,fun e=>?_,h2.2.2⟩
  rw [qaB.2 e] at h2;exact absurd h2.2.1 (by decide)
theorem qh5 {rl:List (Nat×List Nat)} {T:List Nat} {n0:Nat} (h:growB md ops rl T n0=true) {k:Nat} (hk:k<n0) (hT:k∉T):∃j o,k<j∧j≤n0∧nthOp ops.toList j=some o∧k∈waits md o:=by
 unfold growB at h
 rw [qaR,qaR] at h
 have h1:=(qaV.1 h.2.1) k (qa1.2 hk)
 rw [Bool.or_eq_true] at h1
 rcases h1 with h1 | h1
 ·exact absurd (qaB.1 h1) hT
 obtain⟨j,hj,hj2⟩:=List.any_eq_true.1 h1
 rw [qaR,decide_eq_true_eq] at hj2
 have hj:=qa1.1 hj
 cases e:nthOp ops.toList j with
 | none=>rw [e] at hj2;exact absurd hj2.2 (by simp)
 | some o=>rw [e] at hj2;exact⟨j,o,hj2.1,by omega,e,qaB.1 hj2.2⟩
theorem qh3 {rl:List (Nat×List Nat)} {T:List Nat} {n0:Nat} (h:growB md ops rl T n0=true) {i:Nat} {o:Oper} (hi:n0<i) (hs:i<ops.size) (ho:nthOp ops.toList i=some o):∃k∈waits md o,n0≤k:=by
 unfold growB at h
 rw [qaR,qaR] at h
 have h1:=(qaV.1 h.2.2) i (qa1.2 hs)
 rw [Bool.or_eq_true,decide_eq_true_eq,ho] at h1
 rcases h1 with h1 | h1
 ·omega
 ·obtain⟨k,hk,hk2⟩:=List.any_eq_true.1 (show ((waits md o).any fun k=>decide (n0≤k))=true from h1)
  exact⟨k,hk,of_decide_eq_true hk2⟩
end
def pv:Value→Nat
 | .pointer (some a)=>a.block
 | .slice (some a) _ _=>a.block
 | _=>0
structure Grown (md:Region.Mode) (ops:Array Oper) (T E:List Nat) (n0:Nat) (F:Nat→Value→World→Prop) (w0:World) (L:Nat→Bool) (v:Nat→Value) (w:World):Prop where
 old:Below w0.heap.size w0 w
 top:∀i,n0≤i→L i=false
 took:∀k∈T,L k=true
 shut:∀j o,nthOp ops.toList j=some o→L j=true→∀k∈waits md o,L k=true
 fact:∀i,i<n0→i∉T→L i=true→F i (v i) w
 lt:∀i∈E,L i=true→pv (v i)<w.heap.size
 apart:∀i∈E,∀j∈E,L i=true→L j=true→i≠j→pv (v i)≠pv (v j)
def Grows (F:Nat→Value→World→Prop) (E:List Nat) (i:Nat) (w:World) (A:Act) (d:Option Tmp) (K:Act→World→Prop):Prop :=
 Shut (∀(x:Value) (A':Act) (w':World),A'=A.put d x→F i x w'→(E.contains i=true→w.heap.size≤pv x∧pv x<w'.heap.size)→Below w.heap.size w w'→K A' w')
theorem Grows.to {F:Nat→Value→World→Prop} {E:List Nat} {i:Nat} {w:World} {A:Act} {d:Option Tmp} {K:Act→World→Prop} (h:Grows F E i w A d K) (x:Value) (A':Act) (w':World) (hA:A'=A.put d x) (hF:F i x w') (hE:E.contains i=true→w.heap.size≤pv x∧pv x<w'.heap.size) (hb:Below w.heap.size w w'):K A' w':=h.out x A' w' hA hF hE hb
theorem qhk (a:Act) (D:List (Nat×Tmp)) (rl:List (Nat×List Nat)) (T E:List Nat) (n0:Nat) (F:Nat→Value→World→Prop) (w0:World) (T2:List Nat)
  (hst2:∀i x w w',F i x w→Below w.heap.size w w'→F i x w')
  (hdag:dagB md ops=true) (h1:(D.map (·.1)).Nodup) (h2:(D.map (·.2)).Nodup) (hdst:dstB ops D T2=true) (hT2:∀k,k<n0→k∈T2→k∈T) (hB:growB md ops rl T n0=true) (hn:n0<ops.size) (kl:Nat) (hkl:leftN ops.size (fun i=>decide (i<n0))=kl)
  (hS:∀w,Below w0.heap.size w0 w→S w)
  (hstep:∀i o,nthOp ops.toList i=some o→i<n0→i∉T→∀(v:Nat→Value) (w:World),Below w0.heap.size w0 w→(∀k∈dep rl i,F k (v k) w) →
   ∀A,A=pf a v D→∀K,Grows F E i w A o.dst K→if Region.wanted o (yielded ops A.tmps)=true then Oper.wp P o A w K Q else K (A.put o.dst undef) w)
  (hend:∀v w,Grown md ops T E n0 F w0 (fun i=>decide (i<n0)) v w→∀A,A=pf a v D→∀f,wpAnyH P md ops Q S (f+kl) (arr ops.size fun i=>decide (i<n0)) A w) :
  ∀(fuel:Nat) (L:Nat→Bool) (v:Nat→Value) (w:World),leftN ops.size L≤fuel→Grown md ops T E n0 F w0 L v w→wpAnyH P md ops Q S fuel (arr ops.size L) (pf a v D) w:=by
 have fin:∀(fuel:Nat) (L:Nat→Bool) (v:Nat→Value) (w:World),leftN ops.size L≤fuel→Grown md ops T E n0 F w0 L v w→(∀i,i<n0→L i=true)→wpAnyH P md ops Q S fuel (arr ops.size L) (pf a v D) w:=by
  intro fuel L v w hf hJ hall
  have hLe:L=fun i=>decide (i<n0):=funext fun i=>by
   by_cases h:i<n0
   ·rw [hall i h,decide_eq_true h]
   ·rw [hJ.top i (by omega),decide_eq_false h]
  subst hLe
  rw [hkl] at hf
  obtain⟨f,rfl⟩:∃f,fuel=f+kl:=⟨fuel-kl,by omega⟩
  exact hend v w hJ _ rfl f
 intro fuel
 induction fuel with
 | zero =>
  intro L v w hf hJ
  exact fin 0 L v w hf hJ fun i hi=>qic (Nat.le_zero.1 hf) i (by omega)
 | succ fuel ih =>
  intro L v w hf hJ
  by_cases hall:∀i,i<n0→L i=true
  ·exact fin (fuel+1) L v w hf hJ hall
  refine⟨fun h0=>absurd (fun i hi=>qig hdag h0 i (by omega)) hall,fun i hi=>?_⟩
  obtain⟨hin,hL,o,ho,hd⟩:=(qgL _ L rfl i).1 hi
  have hw:∀k∈waits md o,L k=true:=fun k hk=>(qjA hd k hk).2
  have hin0:i<n0:=by
   apply Classical.byContradiction
   intro hge
   rcases qa2 n0 i with hgt | hle
   ·obtain⟨k,hk,hk2⟩:=qh3 hB hgt hin (qcQ ho)
    have:=hw k hk
    rw [hJ.top k hk2] at this;cases this
   ·obtain rfl:i=n0:=by omega
    refine hall fun k hk=>?_
    have key:∀m k,k<i→i-k=m→L k=true:=by
     intro m
     induction m using Nat.strongRecOn with
     | ind m ihm =>
      intro k hk hm
      by_cases hkT:k∈T
      ·exact hJ.took k hkT
      obtain⟨j,p,h1,h2,h3,h4⟩:=qh5 hB hk hkT
      rcases qa2 j i with h | h
      ·exact hJ.shut j p h3 (ihm (i-j) (by omega) j h rfl) k h4
      ·obtain rfl:j=i:=by omega
       rw [qcQ ho] at h3;cases h3
       exact hw k h4
    exact key _ k hk rfl
  have hiT:i∉T:=fun h=>by have:=hJ.took i h;rw [hL] at this;cases this
  refine wpOp_step ho fun K' hK=>hstep i o (qcQ ho) hin0 hiT v w hJ.old (fun k hk=>by obtain⟨a1,a2,a3⟩:=qh4 hB hin0 hiT (qcQ ho) k hk;exact hJ.fact k a3 a2 (hw k a1)) _ rfl K' fun x A' w' hA hF hEi hb=>?_
  have hb':Below w0.heap.size w0 w':=hJ.old.trans (hb.mono hJ.old.size)
  refine hK _ _ ⟨hS _ hb',?_⟩
  rw [arr_set]
  have hput:A'=pf a (upd v i x) D:=by
   rw [hA]
   have hb:=(qaV.1 hdst) i (qa1.2 hin)
   rw [Bool.or_eq_true,qcQ ho] at hb
   rcases hb with hb | hb
   ·exact absurd (hT2 i hin0 (qaB.1 hb)) hiT
   ·cases e:o.dst with
    | none =>
     show pf a v D=_
     refine (qex a v i x D fun p hp e2=>?_).symm
     have hb:(!(D.map (·.1)).contains i)=true:=by
      have:(match o.dst with | none=>!(D.map (·.1)).contains i | some d=>D.contains (i,d))=true:=hb
      rw [e] at this;exact this
     rw [Bool.not_eq_true',←Bool.not_eq_true] at hb
     exact hb (qaB.2 (List.mem_map.2 ⟨p,hp,e2⟩))
    | some d =>
     have hb:D.contains (i,d)=true:=by
      have:(match o.dst with | none=>!(D.map (·.1)).contains i | some d=>D.contains (i,d))=true:=hb
      rw [e] at this;exact this
     exact pf_put a v x D h1 h2 (qaB.1 hb)
  rw [hput]
  refine ih _ _ _ (by have:=qi2 hin hL;omega) ⟨hb',fun j hj=>?_,fun k hk=>?_,fun j p hp hj k hk=>?_,fun j hj hjT hLj=>?_,fun j hj hLj=>?_,fun j hj m hm hLj hLm hne=>?_⟩
  ·rw [qbD _ _ (by omega)];exact hJ.top j hj
  ·rw [qbD _ _ (by rintro rfl;exact hiT hk)];exact hJ.took k hk
  ·by_cases e:k=i
   ·rw [e,upd_same]
   ·rw [qbD _ _ e]
    by_cases e2:j=i
    ·subst e2
     rw [qcQ ho] at hp;cases hp
     exact hw k hk
    ·rw [qbD _ _ e2] at hj
     exact hJ.shut j p hp hj k hk
  ·by_cases e:j=i
   ·subst e;rw [upd_same];exact hF
   ·rw [qbD _ _ e] at hLj ⊢
    exact hst2 _ _ _ _ (hJ.fact j hj hjT hLj) hb
  ·by_cases e:j=i
   ·subst e;rw [upd_same];exact (hEi (qaB.2 hj)).2
   ·rw [qbD _ _ e] at hLj ⊢
    exact qal (hJ.lt j hj hLj) hb.size
  ·by_cases e:j=i
   ·subst e
    have e2:m≠j:=fun e=>hne e.symm
    rw [qbD _ _ e2] at hLm
    rw [upd_same,qbD _ _ e2]
    have h1:=hJ.lt m hm hLm
    have h2:=(hEi (qaB.2 hj)).1
    omega
   ·rw [qbD _ _ e] at hLj ⊢
    by_cases e2:m=i
    ·subst e2
     rw [upd_same]
     have h1:=hJ.lt j hj hLj
     have h2:=(hEi (qaB.2 hm)).1
     omega
    ·rw [qbD _ _ e2] at hLm ⊢
     exact hJ.apart j hj m hm hLj hLm hne
theorem qh7 {fuel:Nat} {listed:Array Bool} {a:Act} {w0:World} (D:List (Nat×Tmp)) (rl:List (Nat×List Nat)) (T C E:List Nat) (n0:Nat) (F:Nat→Value→World→Prop) (kl m:Nat) (Lz:Array Bool) (hm:a.tmps.size=m)
  (hst:∀i x,Stays (F i x))
  (hB:(dagB md ops && (decide ((D.map (·.1)).Nodup) && (decide ((D.map (·.2)).Nodup) && (dstB ops D (T++(List.range ops.size).filter fun k=>decide (n0≤k)) && ((D.all fun p=>decide (D.lookup p.1=some p.2) && decide (p.2<m)) && (decide (listed.size=ops.size) && (decide (leftN ops.size (fun k=>listed.getD k false)≤fuel) &&
   (growB md ops rl T n0 && (decide (n0<ops.size) && (decide (leftN ops.size (fun i=>decide (i<n0))=kl) && (decide (listed=arr ops.size fun k=>T.contains k) && ((T.all fun k=>decide (k<n0)) && ((T.all fun k=>((nthOp ops.toList k).map fun o=>(waits md o).all fun j=>T.contains j).getD false) && (decide (Lz=arr ops.size fun i=>decide (i<n0)) && ((List.range n0).all (fun i=>T.contains i || C.contains i) && E.all fun i=>decide (i<n0) && !T.contains i)))))))))))))))=true)
  (hS:∀w,Below w0.heap.size w0 w→S w)
  (hstep:∀i∈C,∀o,nthOp ops.toList i=some o→∀(v:Nat→Value) (w:World),Below w0.heap.size w0 w→(∀k∈dep rl i,F k (v k) w) →
   ∀A,A=pf a v D→∀K,Grows F E i w A o.dst K→if Region.wanted o (yielded ops A.tmps)=true then Oper.wp P o A w K Q else K (A.put o.dst undef) w)
  (hend:∀(v:Nat→Value) (w:World),Below w0.heap.size w0 w→(∀i,i<n0→i∉T→F i (v i) w)→(∀i∈E,∀j∈E,i≠j→pv (v i)≠pv (v j))→∀A,A=pf a v D→∀f,wpAnyH P md ops Q S (f+kl) Lz A w):wpAnyH P md ops Q S fuel listed a w0:=by
 simp only [qaR,decide_eq_true_eq] at hB
 obtain⟨hdag,h1,h2,hdst,hD,hsz,hf,hsep,hn,hkl,hlist,hTn,hTw,hLz,hC,hE⟩:=hB
 have hself:pf a (fun i=>a.tmps.getD ((D.lookup i).getD 0) undef) D=a:=qjj a _ D fun p hp=>by
  have:=(qaV.1 hD) p hp
  simp only [qaR,decide_eq_true_eq] at this
  exact⟨by rw [this.1];rfl,by rw [hm];exact this.2⟩
 have hE1:∀i∈E,i<n0∧¬T.contains i=true:=fun i hi=>by
  have:=(qaV.1 hE) i hi
  rw [qaR,decide_eq_true_eq] at this
  exact⟨this.1,by simpa using this.2⟩
 have h0:Grown md ops T E n0 F w0 (fun k=>T.contains k) (fun i=>a.tmps.getD ((D.lookup i).getD 0) undef) w0 :=
  ⟨Below.refl _ _,fun i hi=>by
   rw [←Bool.not_eq_true]
   intro h
   have:=of_decide_eq_true ((qaV.1 hTn) i (qaB.1 h));omega,fun k hk=>qaB.2 hk,fun j o ho hj k hk=>by
   have:=(qaV.1 hTw) j (qaB.1 hj)
   rw [ho] at this
   exact (qaV.1 (show ((waits md o).all fun j=>T.contains j)=true from this)) k hk,fun i _ h hL=>absurd (qaB.1 hL) h,fun i hi hL=>absurd hL (hE1 i hi).2,fun i hi _ _ hL=>absurd hL (hE1 i hi).2⟩
 have key:=qhk (P:=P) (Q:=Q) (S:=S) a D rl T E n0 F w0 (T++(List.range ops.size).filter fun k=>decide (n0≤k)) (fun i x w w' h hb=>(hst i x).go h hb) hdag h1 h2 hdst (fun k hk hk2=>by
  rcases qaZ.1 hk2 with h | h
  ·exact h
  ·have:=of_decide_eq_true (List.mem_filter.1 h).2;omega) hsep hn kl hkl hS (fun i o ho hi hiT=>hstep i (by
   have:=(qaV.1 hC) i (qa1.2 hi)
   rw [Bool.or_eq_true] at this
   rcases this with h | h
   ·exact absurd (qaB.1 h) hiT
   ·exact qaB.1 h) o ho) (fun v w h A hA f=>by
   rw [←hLz]
   exact hend v w h.old (fun i hi hT=>h.fact i hi hT (decide_eq_true hi)) (fun i hi j hj=>h.apart i hi j hj (decide_eq_true (hE1 i hi).1) (decide_eq_true (hE1 j hj).1)) A hA f) fuel _ _ _ (by rw [qhb (M:=fun k=>listed.getD k false)];exact hf;intro i hi;rw [hlist,qfZ,if_pos hi]) h0
 rw [hself,←hlist] at key
 exact key
end
end Go.Proofs.YtfminfgabiipjaaGreatDoor
