import Derived.ChangeArms
import Derived.Lib.LaidTab
import Derived.OpenShut
import Derived.ProofKit
import Derived.Test.YtplkdeknjghobaaGreatDoorBx0
set_option maxRecDepth 100000
set_option maxHeartbeats 0
namespace Go.Proofs.YtplkdeknjghobaaGreatDoor
section
variable {H:Type} {enc:TypeId×Value->H} {P:Program}
theorem qgy {β:Type}:∀(g:List β) (s:Nat) (f:Nat->Option β),(∀i (h:i<g.length),f (s+i)=some g[i])->(List.range' s g.length).mapM f=some g
 | [],_,_,_=>rfl
 | a :: g,s,f,h=>by
  rw [qbH,List.range'_succ,List.mapM_cons];have F:f s=some a:=h 0 (by simp);have G:=qgy g (s+1) f (fun i H=>by
   have:=h (i+1) (by simpa using H);rw [show s+1+i=s+(i+1) by omega];exact this)
  rw [F,G];rfl
theorem qid {w:World} {base:Nat} {Y:Nat->Bool} {G:Bool} {t e:TypeId} {n:Nat} {k:IntKind} (ht:P.underlying t=some (.array n e)) (he:P.underlying e=some (.int k)) (J:P.cellsOf e=1) (O:P.cellsOf t=n)
  (F:List Int) (hn:F.length=n) (U:∀z∈F,(Lit.int k z).wf=true) :
  DataW.trod enc P w base Y G 2 t (F.map (Value.int k))=some (.agg (F.map fun z=>.lit (.int k z)),[]):=by
 subst hn;unfold DataW.trod;simp only [ht];rw [if_pos (by rw [qat,O]),J,List.range_eq_range'];have V:=qgy (F.map fun z=>((.lit (.int k z):DataW H),([]:List MemPlace))) 0 (fun i=>DataW.trod enc P w base Y G 1 e (((F.map (Value.int k)).drop (i*1)).take 1)) (fun i hi=>by
  have I:i<F.length:=by simpa using hi
  have Z:((F.map (Value.int k)).drop (i*1)).take 1=[Value.int k F[i]]:=by
   rw [qbD,<-List.map_drop,qbq I];rfl
  simp only [qaH];rw [Z,List.getElem_map];have hw:=U F[i] (List.getElem_mem I);unfold DataW.trod;simp [he,hw])
 rw [qat] at V;rw [V];simp [List.flatMap_eq_nil_iff,Function.comp_def]
theorem qh1 {w:World} {r:Reach} {b0 base:Nat} {sp:Nat->Bool} {U:Bool} {t e:TypeId} {n:Nat} {k:IntKind} {v:Value} {d:DataW H} {p:List MemPlace} (ht:P.underlying t=some (.array n e)) (he:P.underlying e=some (.int k)) (Z:P.cellsOf e=1) (ae:P.cellsOf t=n)
  (hv:Value.okWide P w r b0 t v) (h:DataW.Trod enc P w base sp U t v d p) :
  ∃V:List Int,v=.agg (V.map (Value.int k)).toArray/\V.length=n/\(∀z∈V,(Lit.int k z).wf=true)/\d=.agg (V.map fun z=>.lit (.int k z))/\p=[] /\
   ∀(w':World) (F:Nat) (Y:Nat->Bool) (I:Bool),DataW.Trod enc P w' F Y I t v d p:=by
 simp only [Value.okWide,ht] at hv;obtain⟨cs,rfl,ak,_⟩:=hv;obtain⟨fuel,hf⟩:=h;have af:cs.toList.length=n:=by rw [Array.length_toList,ak,ae]
 have aj:DataW.trod enc P w base sp U fuel t cs.toList=some (d,p):=hf;obtain⟨xs,m,_,hx,_,hn,ai⟩:=DataW.trod_array ht aj;have G:∀i,i<n->∃z,cs.toList[i]? = some (Value.int k z)/\(Lit.int k z).wf=true/\xs[i]? = some (.lit (.int k z),[]):=fun i J=>by
  have h1:=ai i J;rw [Z,qbD,qbq (by omega)] at h1;have ah:xs[i]? = some xs[i]:=qad (by omega);rw [ah] at h1;obtain⟨z,e1,e2,e3⟩:=DataW.trod_int he h1;have e4:cs.toList[i]'(by omega)=Value.int k z:=by
   simpa using e1
  exact⟨z,by rw [qad (by omega),e4],e3,by rw [ah,e2]⟩
 let f:Value->Int:=fun v=>match v with | .int _ z=>z | _=>0
 have O:(cs.toList.map f).length=n:=by rw [qat];exact af
 have aa:cs.toList=(cs.toList.map f).map (Value.int k):=by
  apply qbC;intro i
  by_cases J:i<n
  ·obtain⟨z,e1,_,_⟩:=G i J;rw [qau,qau,e1];rfl
  ·rw [qaA (by omega),qaA (by rw [qat];omega)]
 have ag:∀z∈cs.toList.map f,(Lit.int k z).wf=true:=by
  intro z hz;obtain⟨i,J,rfl⟩:=List.getElem_of_mem hz;rw [O] at J;obtain⟨z',e1,e2,_⟩:=G i J;have:(cs.toList.map f)[i]? = some z':=by rw [qau,e1];rfl
  rw [qad (by rw [O];exact J)] at this;rw [qah this];exact e2
 have au:xs=(cs.toList.map f).map fun z=>((.lit (.int k z):DataW H),([]:List MemPlace)):=by
  apply qbC;intro i
  by_cases J:i<n
  ·obtain⟨z,e1,_,e3⟩:=G i J;rw [qau,qau,e1,e3];rfl
  ·rw [qaA (by omega),qaA (by rw [qat];omega)]
 generalize cs.toList.map f=V at *;have hd:d=.agg (V.map fun z=>.lit (.int k z))/\p=[]:=by
  rw [au] at hx;simp only [Prod.mk.injEq] at hx;exact⟨by rw [hx.1,List.map_map];rfl,by rw [hx.2];simp [List.flatMap_eq_nil_iff]⟩
 refine⟨V,?_,O,ag,hd.1,hd.2,fun w' F Y I=>⟨2,?_⟩⟩
 ·rw [<-aa]
 ·rw [hd.1,hd.2]
  show DataW.trod enc P w' F Y I 2 t cs.toList=_
  rw [aa];exact qid ht he Z ae V O ag
