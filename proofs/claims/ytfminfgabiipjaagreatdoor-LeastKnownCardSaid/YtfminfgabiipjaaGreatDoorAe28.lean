/- Ae, part 28: Hand Jn -/
import Derived.Deep.RegionHeld3
import Derived.KernelRfl
import Derived.Test.YtfminfgabiipjaaGreatDoorAe0
set_option maxRecDepth 100000
set_option maxHeartbeats 16000000
namespace Go.Proofs.YtfminfgabiipjaaGreatDoor
open Go
section
variable {P:Program} {ops:Array Oper} {Q:Exit→Act→World→Prop} {md:Region.Mode} {S:World→Prop}
def nthOp:List Oper→Nat→Option Oper
 | [],_=>none
 | o :: _,0=>some o
 | _ :: l,n+1=>nthOp l n
theorem qfM:∀{l:List Oper} {i:Nat} {o:Oper},nthOp l i=some o→l.toArray[i]? = some o
 | [],_,_,h=>by cases h
 | _ :: _,0,_,h=>by rw [qas];exact h
 | _ :: l,n+1,_,h=>by
  have:=qfM (l:=l) h
  rw [qas] at this ⊢
  exact this
theorem qeZ {ops:Array Oper} {i:Nat} {o:Oper} (h:nthOp ops.toList i=some o):ops[i]? = some o:=qfM (l:=ops.toList) h
theorem qiT {T:World→Prop} (hT:∀W,T W→S W):∀(fuel:Nat) (listed:Array Bool) (a:Act) (w:World),wpAnyH P md ops Q T fuel listed a w→wpAnyH P md ops Q S fuel listed a w
 | 0,_,_,_,h=>h
 | fuel+1,_,_,_,h=>⟨h.1,fun i hi=>wpOp_mono (fun _ _ hh=>⟨hT _ hh.1,qiT hT fuel _ _ _ hh.2⟩) (h.2 i hi)⟩
theorem qbC (i:Nat) {o:Oper} {v:Value} {fuel:Nat} {listed:Array Bool} {a:Act} {w:World} (hi':nthOp ops.toList i=some o)
  (hB:(Region.noSelect ops && (Region.free md ops listed i && (Region.ready md ops listed).contains i))=true) (hQ:∀c a w,Q (.panic c) (a.put o.dst v) w→Q (.panic c) a w) (hS:S w)
  (hw:Region.wanted o (yielded ops a.tmps)=true) (hy:∀w,S w→(execOp a.eval o).run P w=.ok (.value v) w)
  (h:wpAnyH P md ops Q S fuel (listed.setIfInBounds i true) (a.put o.dst v) w):wpAnyH P md ops Q S (fuel+1) listed a w:=by
 have hi:=qeZ hi'
 rw [qaR,qaR] at hB
 exact wpAnyH_take hi hB.1 hB.2.1 hB.2.2 hQ (qaJ ⟨hw,hy⟩) hS h
def Way (P:Program) (md:Region.Mode) (ops:Array Oper) (Q:Exit→Act→World→Prop) (S:World→Prop) (fuel:Nat) (listed:Array Bool) (K:Act→World→Prop):Prop :=
 Shut (∀(T:World→Prop) (a:Act) (w:World),(∀W,T W→S W)→T w→wpAnyH P md ops Q T fuel listed a w→K a w)
theorem qg9 {i:Nat} {o:Oper} {fuel:Nat} {listed:Array Bool} {a:Act} {w:World} (hi:ops[i]? = some o)
  (h:∀K:Act→World→Prop,Way P md ops Q S fuel (listed.setIfInBounds i true) K→if Region.wanted o (yielded ops a.tmps)=true then Oper.wp P o a w K Q else K (a.put o.dst undef) w) :
  wpOp P ops Q i (fun a' w'=>S w'∧wpAnyH P md ops Q S fuel (listed.setIfInBounds i true) a' w') a w :=
 wpOp_step hi fun K' hK=>h K' fun _T a w hT hw hh=>hK a w ⟨hT w hw,qiT hT _ _ _ _ hh⟩
theorem qcd (i:Nat) {o:Oper} {fuel:Nat} {listed:Array Bool} {a:Act} {w:World} (hi':nthOp ops.toList i=some o) (hr:decide (Region.ready md ops listed=[i])=true)
  (h:∀K:Act→World→Prop,Way P md ops Q S fuel (listed.setIfInBounds i true) K→if Region.wanted o (yielded ops a.tmps)=true then Oper.wp P o a w K Q else K (a.put o.dst undef) w) :
  wpAnyH P md ops Q S (fuel+1) listed a w:=by
 refine wpAnyH_all (of_decide_eq_true hr) (by simp) fun j hj=>?_
 rw [qao] at hj
 subst hj
 exact qg9 (qeZ hi') h
theorem hd_two (i j:Nat) {o p:Oper} {fuel:Nat} {listed:Array Bool} {a:Act} {w:World} (hi:nthOp ops.toList i=some o) (hj:nthOp ops.toList j=some p) (hr:decide (Region.ready md ops listed=[i,j])=true)
  (h:∀K:Act→World→Prop,Way P md ops Q S fuel (listed.setIfInBounds i true) K→if Region.wanted o (yielded ops a.tmps)=true then Oper.wp P o a w K Q else K (a.put o.dst undef) w)
  (k:∀K:Act→World→Prop,Way P md ops Q S fuel (listed.setIfInBounds j true) K→if Region.wanted p (yielded ops a.tmps)=true then Oper.wp P p a w K Q else K (a.put p.dst undef) w) :
  wpAnyH P md ops Q S (fuel+1) listed a w:=by
 refine wpAnyH_all (of_decide_eq_true hr) (by simp) fun x hx=>?_
 rcases qaN.1 hx with rfl | hx
 ·exact qg9 (qeZ hi) h
 ·rw [qao] at hx
  subst hx
  exact qg9 (qeZ hj) k
theorem Way.on {fuel:Nat} {listed:Array Bool} {K:Act→World→Prop} (h:Way P md ops Q S fuel listed K) (T:World→Prop) (a:Act) (w:World) (hT:∀W,T W→S W) (hw:T w) (k:T w→wpAnyH P md ops Q T fuel listed a w):K a w :=
 h.out T a w hT hw (k hw)
end
def pf (a:Act) (v:Nat→Value):List (Nat×Tmp)→Act
 | []=>a
 | p :: D=>(pf a v D).put (some p.2) (v p.1)
def upd {α:Type} (v:Nat→α) (i:Nat) (x:α):Nat→α:=fun k=>if k=i then x else v k
theorem upd_same {α:Type} (v:Nat→α) (i:Nat) (x:α):upd v i x i=x:=if_pos rfl
theorem qbD {α:Type} (v:Nat→α) {i k:Nat} (x:α) (h:k≠i):upd v i x k=v k:=if_neg h
theorem put_put (a:Act) (d:Tmp) (x y:Value):(a.put (some d) x).put (some d) y=a.put (some d) y:=by
 simp [Act.put]
theorem qex (a:Act) (v:Nat→Value) (i:Nat) (x:Value):∀D:List (Nat×Tmp),(∀p∈D,p.1≠i)→pf a (upd v i x) D=pf a v D
 | [],_=>rfl
 | p :: D,h=>by
  show (pf a (upd v i x) D).put _ (upd v i x p.1)=(pf a v D).put _ (v p.1)
  rw [qex a v i x D fun q hq=>h q (List.mem_cons_of_mem _ hq),qbD _ _ (h p (List.mem_cons_self ..))]
theorem pf_put (a:Act) (v:Nat→Value) {i:Nat} {d:Tmp} (x:Value):∀D:List (Nat×Tmp),(D.map (·.1)).Nodup→(D.map (·.2)).Nodup→(i,d)∈D→(pf a v D).put (some d) x=pf a (upd v i x) D
 | [],_,_,h=>by cases h
 | p :: D,h1,h2,h=>by
  rw [qan,List.nodup_cons] at h1 h2
  rcases qaN.1 h with e | h
  ·subst e
   show ((pf a v D).put (some d) (v i)).put (some d) x=(pf a (upd v i x) D).put (some d) (upd v i x i)
   rw [put_put,upd_same,qex a v i x D fun q hq e=>h1.1 (List.mem_map.2 ⟨q,hq,e⟩)]
  ·have hne:p.1≠i:=fun e=>h1.1 (List.mem_map.2 ⟨_,h,e.symm⟩)
   have hnd:p.2≠d:=fun e=>h2.1 (List.mem_map.2 ⟨_,h,e.symm⟩)
   show ((pf a v D).put (some p.2) (v p.1)).put (some d) x=(pf a (upd v i x) D).put (some p.2) (upd v i x p.1)
   rw [qbD _ _ hne,←pf_put a v x D h1.2 h2.2 h]
   exact Act.put_comm _ _ _ fun e he e2=>hnd (by cases he;cases e2;rfl)
theorem qjj (a:Act) (v:Nat→Value):∀D:List (Nat×Tmp),(∀p∈D,v p.1=a.tmps.getD p.2 undef∧p.2<a.tmps.size)→pf a v D=a
 | [],_=>rfl
 | p :: D,h=>by
  show (pf a v D).put (some p.2) (v p.1)=a
  obtain⟨h1,h2⟩:=h p (List.mem_cons_self ..)
  rw [qjj a v D fun q hq=>h q (List.mem_cons_of_mem _ hq),h1]
  show { a with tmps:=a.tmps.setIfInBounds p.2 _ }=a
  congr 1
  apply Array.ext_getElem?
  intro j
  rw [Array.getElem?_setIfInBounds]
  split
  ·next e=>subst e;simp [h2]
  ·rfl
def arr (n:Nat) (L:Nat→Bool):Array Bool:=((List.range n).map L).toArray
theorem qfZ (n:Nat) (L:Nat→Bool) (i:Nat) (b:Bool):(arr n L).getD i b=if i<n then L i else b:=by
 unfold arr
 rw [Array.getD_eq_getD_getElem?,qas,qaO]
 by_cases h:i<n
 ·rw [qbh h,if_pos h];rfl
 ·rw [qaX (by rw [List.length_range];omega),if_neg h];rfl
theorem arr_set (n:Nat) (L:Nat→Bool) (i:Nat):(arr n L).setIfInBounds i true=arr n (upd L i true):=by
 unfold arr
 rw [qac]
 congr 1
 apply List.ext_getElem?
 intro k
 by_cases e:k=i
 ·subst e
  by_cases h:k<n
  ·rw [List.getElem?_set_self (by simpa using h),qaO,qbh h]
   show some true=some (upd L k true k)
   rw [upd_same]
  ·rw [qaX (by simp;omega),qaX (by simp;omega)]
 ·rw [List.getElem?_set_ne (by omega),qaO,qaO]
  cases hk:(List.range n)[k]? with
  | none=>rfl
  | some j =>
   have:j=k:=by
    obtain⟨h,e2⟩:=qa3.1 hk
    rw [List.getElem_range] at e2;exact e2.symm
   subst this
   show some (L j)=some (upd L i true j)
   rw [qbD _ _ e]
section
variable {P:Program} {ops:Array Oper} {Q:Exit→Act→World→Prop} {md:Region.Mode} {S:World→Prop}
theorem qgL (n:Nat) (L:Nat→Bool) (hn:n=ops.size) (i:Nat):i∈Region.ready md ops (arr n L)↔i<n∧L i=false∧∃o,ops[i]? = some o∧(o.after.all fun e=>!Region.binds md e || (decide (e.on<n) && L e.on))=true:=by
 have key:∀o:Oper,(o.after.all fun e=>!Region.binds md e || (arr n L).getD e.on false)=(o.after.all fun e=>!Region.binds md e || (decide (e.on<n) && L e.on)):=fun o=>congrArg (fun f=>o.after.all f) (funext fun e=>by
  rw [qfZ]
  by_cases h:e.on<n
  ·rw [if_pos h,decide_eq_true h,Bool.true_and]
  ·rw [if_neg h,decide_eq_false h,Bool.false_and])
 unfold Region.ready
 rw [List.mem_filter,qa1,←hn]
 constructor
 ·rintro ⟨h1,h2⟩
  rw [qaR] at h2
  refine⟨h1,?_,?_⟩
  ·have:=h2.1;rw [qfZ,if_pos h1] at this;simpa using this
  ·have h3:=h2.2
   cases e:ops[i]? with
   | none=>rw [e] at h3;exact absurd h3 (by simp)
   | some o =>
    rw [e] at h3
    exact⟨o,rfl,(key o).symm.trans h3⟩
 ·rintro ⟨h1,h2,o,h3,h4⟩
  refine⟨h1,?_⟩
  rw [qaR]
  refine⟨by rw [qfZ,if_pos h1,h2];rfl,?_⟩
  rw [h3]
  exact (key o).trans h4
def waits (md:Region.Mode) (o:Oper):List Nat:=(o.after.toList.filter fun e=>Region.binds md e).map (·.on)
theorem qjA {o:Oper} {n:Nat} {L:Nat→Bool} (h:(o.after.all fun e=>!Region.binds md e || (decide (e.on<n) && L e.on))=true):∀k∈waits md o,k<n∧L k=true:=by
 intro k hk
 obtain⟨e,he,rfl⟩:=List.mem_map.1 hk
 obtain⟨he,hb⟩:=List.mem_filter.1 he
 obtain⟨j,hj,rfl⟩:=Array.getElem_of_mem (Array.mem_toList_iff.1 he)
 have:=(Array.all_eq_true.1 h) j hj
 rw [hb] at this
 simpa using this
def dagB (md:Region.Mode) (ops:Array Oper):Bool:=(List.range ops.size).all fun i=>((nthOp ops.toList i).map fun o=>(waits md o).all fun k=>decide (k<i)).getD true
theorem qhF:∀{l:List Oper} {i:Nat} {o:Oper},l[i]? = some o→nthOp l i=some o
 | [],_,_,h=>by simp at h
 | _ :: _,0,_,h=>by simpa [nthOp] using h
 | _ :: l,n+1,_,h=>by
  show nthOp l n=_
  exact qhF (by simpa using h)
theorem qcQ {i:Nat} {o:Oper} (h:ops[i]? = some o):nthOp ops.toList i=some o:=qhF (by rw [←qas];exact h)
theorem qig {L:Nat→Bool} (hd:dagB md ops=true) (h:Region.ready md ops (arr ops.size L)=[]):∀i,i<ops.size→L i=true:=by
 intro i
 induction i using Nat.strongRecOn with
 | ind i ih =>
  intro hi
  apply Classical.byContradiction
  intro hL
  have ho:ops[i]? = some ops[i]:=Array.getElem?_eq_getElem hi
  have hdi:=(qaV.1 hd) i (qa1.2 hi)
  rw [qcQ ho] at hdi
  have hdi:(waits md ops[i]).all (fun k=>decide (k<i))=true:=hdi
  have:i∈Region.ready md ops (arr ops.size L):=(qgL _ L rfl i).2 ⟨hi,by simpa using hL,_,ho,Array.all_eq_true.2 fun j hj=>by
   cases hb:Region.binds md ops[i].after[j] with
   | false=>rfl
   | true =>
    have hk:ops[i].after[j].on∈waits md ops[i]:=List.mem_map.2 ⟨_,List.mem_filter.2 ⟨Array.mem_toList_iff.2 (Array.getElem_mem hj),hb⟩,rfl⟩
    have hlt:=of_decide_eq_true ((qaV.1 hdi) _ hk)
    rw [ih _ hlt (by omega)]
    simp;omega⟩
  rw [h] at this
  cases this
def leftN (n:Nat) (L:Nat→Bool):Nat:=((List.range n).filter fun k=>!L k).length
theorem qi2 {n:Nat} {L:Nat→Bool} {i:Nat} (hi:i<n) (hL:L i=false):leftN n (upd L i true)<leftN n L:=by
 have key:∀l:List Nat,(∀x∈l,x=i→False)∨i∈l→((l.filter fun k=>!upd L i true k).length≤(l.filter fun k=>!L k).length)∧(i∈l→(l.filter fun k=>!upd L i true k).length<(l.filter fun k=>!L k).length):=by
  intro l _
  induction l with
  | nil=>exact⟨qah _,fun h=>by cases h⟩
  | cons x l ih =>
   have ih:=ih (by by_cases h:i∈l;exact qaA h;exact qaJ fun y hy e=>h (e▸hy))
   by_cases e:x=i
   ·subst e
    rw [List.filter_cons_of_neg (by rw [upd_same];simp),List.filter_cons_of_pos (by rw [hL];rfl),List.length_cons]
    exact⟨by omega,fun _=>by omega⟩
   ·have hu:upd L i true x=L x:=qbD _ _ e
    cases hx:L x with
    | true =>
     rw [List.filter_cons_of_neg (by rw [hu,hx];simp),List.filter_cons_of_neg (by rw [hx];simp)]
     exact⟨ih.1,fun h=>ih.2 (by rcases qaN.1 h with h | h;exact absurd h.symm e;exact h)⟩
    | false =>
     rw [List.filter_cons_of_pos (by rw [hu,hx];rfl),List.filter_cons_of_pos (by rw [hx];rfl),List.length_cons,List.length_cons]
     exact⟨by omega,fun h=>by
      have:=ih.2 (by rcases qaN.1 h with h | h;exact absurd h.symm e;exact h)
      omega⟩
 exact (key _ (qaA (qa1.2 hi))).2 (qa1.2 hi)
theorem qic {n:Nat} {L:Nat→Bool} (h:leftN n L=0):∀i,i<n→L i=true:=fun i hi=>by
 have:=List.eq_nil_of_length_eq_zero h
 cases hL:L i with
 | true=>rfl
 | false =>
  have hm:i∈(List.range n).filter fun k=>!L k:=List.mem_filter.2 ⟨qa1.2 hi,by rw [hL];rfl⟩
  rw [this] at hm;cases hm
def dstB (ops:Array Oper) (D:List (Nat×Tmp)) (T:List Nat):Bool:=(List.range ops.size).all fun i=>T.contains i || ((nthOp ops.toList i).map fun o=>match o.dst with | none=>!(D.map (·.1)).contains i | some d=>D.contains (i,d)).getD true
def On (J:(Nat→Bool)→(Nat→Value)→World→Prop) (L:Nat→Bool) (v:Nat→Value) (i:Nat) (A:Act) (d:Option Tmp) (K:Act→World→Prop):Prop :=
 Shut (∀(x:Value) (A':Act) (w':World),A'=A.put d x→J (upd L i true) (upd v i x) w'→K A' w')
theorem On.on {J:(Nat→Bool)→(Nat→Value)→World→Prop} {L:Nat→Bool} {v:Nat→Value} {i:Nat} {A:Act} {d:Option Tmp} {K:Act→World→Prop} (h:On J L v i A d K) (x:Value) (A':Act) (w':World) (hA:A'=A.put d x) (hJ:J (upd L i true) (upd v i x) w'):K A' w' :=
 h.out x A' w' hA hJ
end
end Go.Proofs.YtfminfgabiipjaaGreatDoor
