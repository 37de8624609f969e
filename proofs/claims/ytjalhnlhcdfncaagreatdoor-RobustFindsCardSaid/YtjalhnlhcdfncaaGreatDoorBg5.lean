import Derived.ChangeArms
import Derived.Test.YtjalhnlhcdfncaaGreatDoorBg4
set_option maxRecDepth 100000
set_option maxHeartbeats 0
namespace Go.Proofs.YtjalhnlhcdfncaaGreatDoor
section
variable {H:Type} {enc:TypeId×Value->H} {P:Program}
theorem qf3 {β:Type}:∀(g:List β) (s:Nat) (f:Nat->Option β),(∀i (h:i<g.length),f (s+i)=some g[i])->(List.range' s g.length).mapM f=some g
 | [],_,_,_=>rfl
 | a :: g,s,f,h=>by
  rw [qbC,List.range'_succ,List.mapM_cons];have E:f s=some a:=h 0 (by simp);have F:=qf3 g (s+1) f (fun i G=>by
   have:=h (i+1) (by simpa using G);rw [show s+1+i=s+(i+1) by omega];exact this)
  rw [E,F];rfl
theorem qhC {w:World} {base:Nat} {V:Nat->Bool} {F:Bool} {t e:TypeId} {n:Nat} {k:IntKind} (ht:P.underlying t=some (.array n e)) (he:P.underlying e=some (.int k)) (I:P.cellsOf e=1) (J:P.cellsOf t=n)
  (E:List Int) (hn:E.length=n) (O:∀z∈E,(Lit.int k z).wf=true) :
  DataW.trod enc P w base V F 2 t (E.map (Value.int k))=some (.agg (E.map fun z=>.lit (.int k z)),[]):=by
 subst hn;unfold DataW.trod;simp only [ht];rw [if_pos (by rw [qay,J]),I,List.range_eq_range'];have U:=qf3 (E.map fun z=>((.lit (.int k z):DataW H),([]:List MemPlace))) 0 (fun i=>DataW.trod enc P w base V F 1 e (((E.map (Value.int k)).drop (i*1)).take 1)) (fun i Z=>by
  have G:i<E.length:=by simpa using Z
  have Y:((E.map (Value.int k)).drop (i*1)).take 1=[Value.int k E[i]]:=by
   rw [qbI,<-List.map_drop,qbq G];rfl
  simp only [qaL];rw [Y,List.getElem_map];have hw:=O E[i] (qbB G);unfold DataW.trod;simp [he,hw])
 rw [qay] at U;rw [U];simp [List.flatMap_eq_nil_iff,Function.comp_def]
theorem qhv {w:World} {r:Reach} {b0 base:Nat} {sp:Nat->Bool} {O:Bool} {t e:TypeId} {n:Nat} {k:IntKind} {v:Value} {d:DataW H} {p:List MemPlace} (ht:P.underlying t=some (.array n e)) (he:P.underlying e=some (.int k)) (Y:P.cellsOf e=1) (aa:P.cellsOf t=n)
  (hv:Value.okWide P w r b0 t v) (h:DataW.Trod enc P w base sp O t v d p) :
  ∃U:List Int,v=.agg (U.map (Value.int k)).toArray/\U.length=n/\(∀z∈U,(Lit.int k z).wf=true)/\d=.agg (U.map fun z=>.lit (.int k z))/\p=[] /\
   ∀(w':World) (E:Nat) (V:Nat->Bool) (G:Bool),DataW.Trod enc P w' E V G t v d p:=by
 simp only [Value.okWide,ht] at hv;obtain⟨cs,rfl,aj,_⟩:=hv;obtain⟨fuel,hf⟩:=h;have ae:cs.toList.length=n:=by rw [Array.length_toList,aj,aa]
 have ai:DataW.trod enc P w base sp O fuel t cs.toList=some (d,p):=hf;obtain⟨xs,m,_,hx,_,hn,ah⟩:=DataW.trod_array ht ai;have F:∀i,i<n->∃z,cs.toList[i]? = some (Value.int k z)/\(Lit.int k z).wf=true/\xs[i]? = some (.lit (.int k z),[]):=fun i I=>by
  have h1:=ah i I;rw [Y,qbI,qbq (by omega)] at h1;have ag:xs[i]? = some xs[i]:=qad (by omega);rw [ag] at h1;obtain⟨z,e1,e2,e3⟩:=DataW.trod_int he h1;have e4:cs.toList[i]'(by omega)=Value.int k z:=by
   simpa using e1
  exact⟨z,by rw [qad (by omega),e4],e3,by rw [ag,e2]⟩
 let f:Value->Int:=fun v=>match v with | .int _ z=>z | _=>0
 have J:(cs.toList.map f).length=n:=by rw [qay];exact ae
 have Z:cs.toList=(cs.toList.map f).map (Value.int k):=by
  apply List.ext_getElem?;intro i
  by_cases I:i<n
  ·obtain⟨z,e1,_,_⟩:=F i I;rw [qaE,qaE,e1];rfl
  ·rw [qaS (by omega),qaS (by rw [qay];omega)]
 have af:∀z∈cs.toList.map f,(Lit.int k z).wf=true:=by
  intro z hz;obtain⟨i,I,rfl⟩:=List.getElem_of_mem hz;rw [J] at I;obtain⟨z',e1,e2,_⟩:=F i I;have:(cs.toList.map f)[i]? = some z':=by rw [qaE,e1];rfl
  rw [qad (by rw [J];exact I)] at this;rw [qag this];exact e2
 have ak:xs=(cs.toList.map f).map fun z=>((.lit (.int k z):DataW H),([]:List MemPlace)):=by
  apply List.ext_getElem?;intro i
  by_cases I:i<n
  ·obtain⟨z,e1,_,e3⟩:=F i I;rw [qaE,qaE,e1,e3];rfl
  ·rw [qaS (by omega),qaS (by rw [qay];omega)]
 generalize cs.toList.map f=U at *;have hd:d=.agg (U.map fun z=>.lit (.int k z))/\p=[]:=by
  rw [ak] at hx;simp only [Prod.mk.injEq] at hx;exact⟨by rw [hx.1,List.map_map];rfl,by rw [hx.2];simp [List.flatMap_eq_nil_iff]⟩
 refine⟨U,?_,J,af,hd.1,hd.2,fun w' E V G=>⟨2,?_⟩⟩
 ·rw [<-Z]
 ·rw [hd.1,hd.2]
  show DataW.trod enc P w' E V G 2 t cs.toList=_
  rw [Z];exact qhC ht he Y aa U J af
end
open Go.RowKit
theorem wf_u8' {z:Int} (h:(Lit.int .u8 z).wf=true):∃n:Nat,z=(n:Int)/\n<256:=by
 have E:0<=z/\z<=255:=by simpa [Lit.wf,IntKind.min,IntKind.max,IntKind.signed,IntKind.bits] using h
 exact⟨z.toNat,by omega,by omega⟩
theorem wf_i8 {z:Int} (h:(Lit.int .i8 z).wf=true):-128<=z/\z<=127:=by
 simpa [Lit.wf,IntKind.min,IntKind.max,IntKind.signed,IntKind.bits] using h
theorem two_i8 {F:List Int} (G:F.length=2) (E:∀z∈F,(Lit.int .i8 z).wf=true):∃a b,F=[a,b]/\(-128<=a/\a<=127)/\(-128<=b/\b<=127):=by
 match F,G with
 | [a,b],_=>exact⟨a,b,rfl,wf_i8 (E a (by simp)),wf_i8 (E b (by simp))⟩
def sumN:Nat->(Nat->Int)->Int
 | 0,_=>0
 | n+1,f=>sumN n f+f n
theorem qb4 {n:Nat} {f g:Nat->Int} (h:∀i,i<n->f i=g i):sumN n f=sumN n g:=by
 induction n with
 | zero=>rfl
 | succ n ih=>simp only [sumN];rw [ih fun i E=>h i (by omega),h n (by omega)]
theorem qhz (n:Nat) (f g:Nat->Int):sumN n (fun i=>f i+g i)=sumN n f+sumN n g:=by
 induction n with
 | zero=>rfl
 | succ n ih=>simp only [sumN,ih];omega
theorem qfb (n:Nat) (c:Int) (f:Nat->Int):sumN n (fun i=>c*f i)=c*sumN n f:=by
 induction n with
 | zero=>simp [sumN]
 | succ n ih=>simp only [sumN,ih,Int.mul_add]
theorem qgp (n:Nat) (f:Nat->Int) (h:∀i,i<n->f i=0):sumN n f=0:=by
 induction n with
 | zero=>rfl
 | succ n ih=>simp only [sumN];rw [ih fun i E=>h i (by omega),h n (by omega)];rfl
theorem qjV (n:Nat) (f:Nat->Int):sumN n (fun i=>- f i) = - sumN n f:=by
 induction n with
 | zero=>rfl
 | succ n ih=>simp only [sumN,ih];omega
theorem qit (n m:Nat) (f:Nat->Nat->Int):sumN n (fun i=>sumN m (fun j=>f i j))=sumN m (fun j=>sumN n (fun i=>f i j)):=by
 induction n with
 | zero =>
  simp only [sumN];exact (qgp m _ fun _ _=>rfl).symm
 | succ n ih=>simp only [sumN,ih];rw [<-qhz]
theorem qmh (n:Nat) (f:Nat->Nat->Int) (h:∀i j,i<n->j<n->f i j = - f j i):sumN n (fun i=>sumN n (fun j=>f i j))=0:=by
 have G:sumN n (fun i=>sumN n (fun j=>f i j))=sumN n (fun i=>sumN n (fun j=>- f j i)):=qb4 fun i E=>qb4 fun j F=>h i j E F
 have H:sumN n (fun i=>sumN n (fun j=>- f j i)) = - sumN n (fun i=>sumN n (fun j=>f j i)):=by
  rw [<-qjV];exact qb4 fun i _=>qjV n _
 have I:=qit n n f;omega
def skip (k c:Nat):Nat:=if c<k then c else c+1
theorem qd1 {k c n:Nat} (E:c<n):skip k c<n+1:=by unfold skip;split <;> omega
theorem skip_ne (k c:Nat):skip k c≠k:=by unfold skip;split <;> omega
theorem qmi (n k:Nat) (I:k<n+1) (f:Nat->Int):sumN n (fun c=>f (skip k c))+f k=sumN (n+1) f:=by
 induction n with
 | zero =>
  obtain rfl:k=0:=by omega
  simp [sumN]
 | succ n ih =>
  by_cases F:k=n+1
  ·subst F;simp only [sumN];have G:sumN n (fun c=>f (skip (n+1) c))=sumN n f:=qb4 fun i H=>by unfold skip;rw [if_pos (by omega)]
   have E:f (skip (n+1) n)=f n:=by unfold skip;rw [if_pos (by omega)]
   rw [G,E]
  ·have:=ih (by omega);simp only [sumN] at this ⊢;have E:f (skip k n)=f (n+1):=by unfold skip;rw [if_neg (by omega)]
   rw [E];omega
def sg (j:Nat):Int:=if j % 2=0 then 1 else -1
def det:Nat->(Nat->Nat->Int)->Int
 | 0,_=>1
 | n+1,M=>sumN (n+1) fun j=>sg j*M 0 j*det n fun r c=>M (r+1) (skip j c)
theorem qd6:∀(n:Nat) (M N:Nat->Nat->Int),(∀r c,r<n->c<n->M r c=N r c)->det n M=det n N
 | 0,_,_,_=>rfl
 | n+1,M,N,h=>by
  simp only [det];refine qb4 fun j F=>?_
  rw [h 0 j (by omega) F,qd6 n _ _ fun r c G E=>h (r+1) (skip j c) (by omega) (qd1 E)]
theorem qdT:∀(n:Nat) (M N K:Nat->Nat->Int) (k:Nat),k<n->(∀c,c<n->K k c=M k c+N k c)->(∀r c,r<n->c<n->r≠k->K r c=M r c/\K r c=N r c)->det n K=det n M+det n N
 | 0,_,_,_,_,h,_,_=>absurd h (by omega)
 | n+1,M,N,K,0,_,G,ho=>by
  simp only [det];rw [<-qhz];refine qb4 fun j F=>?_
  have J:det n (fun r c=>K (r+1) (skip j c))=det n (fun r c=>M (r+1) (skip j c)):=qd6 n _ _ fun r c I E=>(ho (r+1) (skip j c) (by omega) (qd1 E) (by omega)).1
  have O:det n (fun r c=>K (r+1) (skip j c))=det n (fun r c=>N (r+1) (skip j c)):=qd6 n _ _ fun r c I E=>(ho (r+1) (skip j c) (by omega) (qd1 E) (by omega)).2
  rw [<-O,<-J,G j F,Int.mul_add,Int.add_mul]
 | n+1,M,N,K,k+1,h,G,ho=>by
  simp only [det];rw [<-qhz];refine qb4 fun j F=>?_
  have e:=qdT n (fun r c=>M (r+1) (skip j c)) (fun r c=>N (r+1) (skip j c)) (fun r c=>K (r+1) (skip j c)) k (by omega) (fun c E=>G (skip j c) (qd1 E)) (fun r c I E U=>ho (r+1) (skip j c) (by omega) (qd1 E) (by omega));have H:=ho 0 j (by omega) F (by omega);rw [e,Int.mul_add];rw [<-H.1];have:K 0 j=N 0 j:=H.2;rw [this]
theorem qdU:∀(n:Nat) (M K:Nat->Nat->Int) (k:Nat) (a:Int),k<n->(∀c,c<n->K k c=a*M k c)->(∀r c,r<n->c<n->r≠k->K r c=M r c)->det n K=a*det n M
 | 0,_,_,_,_,h,_,_=>absurd h (by omega)
 | n+1,M,K,0,a,_,G,ho=>by
  simp only [det];rw [<-qfb];refine qb4 fun j F=>?_
  rw [qd6 n _ _ fun r c H E=>ho (r+1) (skip j c) (by omega) (qd1 E) (by omega),G j F];rw [<-qbt,<-qbt,qbb (sg j) a,qbt a (sg j)]
 | n+1,M,K,k+1,a,h,G,ho=>by
  simp only [det];rw [<-qfb];refine qb4 fun j F=>?_
  have e:=qdU n (fun r c=>M (r+1) (skip j c)) (fun r c=>K (r+1) (skip j c)) k a (by omega) (fun c E=>G (skip j c) (qd1 E)) (fun r c H E I=>ho (r+1) (skip j c) (by omega) (qd1 E) (by omega));rw [e,ho 0 j (by omega) F (by omega),<-qbt,<-qbt,qbb (sg j*M 0 j) a,qbt]
def cof (j k:Nat):Nat:=if k<j then k else k-1
theorem cof_skip (j c:Nat):cof j (skip j c)=c:=by unfold cof skip;(repeat' split) <;> omega
theorem qkz (j k x:Nat) (h:j≠k):skip j (skip (cof j k) x)=skip k (skip (cof k j) x):=by
 unfold cof skip
 by_cases F:k<j
 ·have E:¬j<k:=by omega
  simp only [F,E,if_true,if_false]
  (repeat' split) <;> omega
 ·have E:j<k:=by omega
  simp only [F,E,if_true,if_false]
  (repeat' split) <;> omega
theorem sg_cof (j k:Nat) (h:j≠k):sg j*sg (cof j k) = - (sg k*sg (cof k j)):=by
 unfold sg cof
 by_cases F:k<j
 ·have E:¬j<k:=by omega
  simp only [F,E,if_true,if_false]
  (repeat' split) <;> first | omega | (exfalso;omega)
 ·have E:j<k:=by omega
  simp only [F,E,if_true,if_false]
  (repeat' split) <;> first | omega | (exfalso;omega)
def two (n:Nat) (M:Nat->Nat->Int) (j k:Nat):Int:=if j=k then 0 else sg j*sg (cof j k)*(M 0 j*M 1 k)*det n fun r x=>M (r+2) (skip j (skip (cof j k) x))
theorem det_two (n:Nat) (M:Nat->Nat->Int):det (n+2) M=sumN (n+2) fun j=>sumN (n+2) fun k=>two n M j k:=by
 show sumN (n+2) (fun j=>sg j*M 0 j*det (n+1) fun r c=>M (r+1) (skip j c))=_
 refine qb4 fun j F=>?_
 rw [<-qmi (n+1) j F];have E:two n M j j=0:=by unfold two;rw [if_pos rfl]
 rw [E,Int.add_zero]
 show sg j*M 0 j*sumN (n+1) (fun c=>sg c*M 1 (skip j c)*det n fun r x=>M (r+2) (skip j (skip c x)))=_
 rw [<-qfb];refine qb4 fun c G=>?_
 unfold two;rw [if_neg (Ne.symm (skip_ne j c)),cof_skip];simp only [qbt,qbb,Int.mul_left_comm]
theorem qj0 (n:Nat) (M:Nat->Nat->Int) (h:∀c,c<n+2->M 0 c=M 1 c):det (n+2) M=0:=by
 rw [det_two];refine qmh (n+2) _ fun j k F G=>?_
 unfold two
 by_cases E:j=k
 ·rw [if_pos E,if_pos E.symm];rfl
 ·rw [if_neg E,if_neg (Ne.symm E),sg_cof j k E];have e:(fun r x=>M (r+2) (skip j (skip (cof j k) x)))=fun r x=>M (r+2) (skip k (skip (cof k j) x)):=by
   funext r x;rw [qkz j k x E]
  rw [e,h j F,<-h k G,qbb (M 1 j) (M 0 k),qbu,qbu]
theorem qdV:∀(n:Nat) (M:Nat->Nat->Int) (k:Nat),k+1<n->(∀c,c<n->M k c=M (k+1) c)->det n M=0
 | 0,_,_,h,_=>absurd h (by omega)
 | 1,_,_,h,_=>absurd h (by omega)
 | n+2,M,0,_,h=>qj0 n M h
 | n+2,M,k+1,G,h=>by
  show sumN (n+2) (fun j=>sg j*M 0 j*det (n+1) fun r c=>M (r+1) (skip j c))=0
  refine qgp _ _ fun j F=>?_
  rw [qdV (n+1) (fun r c=>M (r+1) (skip j c)) k (by omega) fun c E=>h (skip j c) (qd1 E),qbH]
def R2 (M:Nat->Nat->Int) (k:Nat) (x y:Nat->Int):Nat->Nat->Int:=fun r c=>if r=k then x c else if r=k+1 then y c else M r c
theorem R2_left (n:Nat) (M:Nat->Nat->Int) (k:Nat) (G:k+1<n) (x E y:Nat->Int):det n (R2 M k (fun c=>x c+E c) y)=det n (R2 M k x y)+det n (R2 M k E y) :=
 qdT n _ _ _ k (by omega) (fun c _=>by simp [R2]) fun r c _ _ F=>by simp [R2,F]
theorem qjm (n:Nat) (M:Nat->Nat->Int) (k:Nat) (G:k+1<n) (x y E:Nat->Int):det n (R2 M k x (fun c=>y c+E c))=det n (R2 M k x y)+det n (R2 M k x E) :=
 qdT n _ _ _ (k+1) (by omega) (fun c _=>by simp [R2]) fun r c _ _ F=>by simp [R2,F]
theorem qiF (n:Nat) (M:Nat->Nat->Int) (k:Nat) (E:k+1<n) (x:Nat->Int):det n (R2 M k x x)=0 :=
 qdV n _ k E fun c _=>by simp [R2]
theorem R2_swap (n:Nat) (M:Nat->Nat->Int) (k:Nat) (E:k+1<n) (x y:Nat->Int):det n (R2 M k x y) = - det n (R2 M k y x):=by
 have h:=qiF n M k E fun c=>x c+y c
 rw [R2_left n M k E,qjm n M k E,qjm n M k E,qiF n M k E,qiF n M k E] at h;omega
theorem R2_self (M:Nat->Nat->Int) (k:Nat):R2 M k (M k) (M (k+1))=M:=by
 funext r c
 unfold R2;split
 ·rename_i h;rw [h]
 ·split
  ·rename_i h;rw [h]
  ·rfl
theorem qfB (n:Nat):∀(d:Nat) (M:Nat->Nat->Int) (i:Nat),i+d+1<n->(∀c,c<n->M i c=M (i+d+1) c)->det n M=0
 | 0,M,i,E,h=>qdV n M i E h
 | d+1,M,i,E,h=>by
  have F:=R2_swap n M (i+d+1) (by omega) (M (i+d+1)) (M (i+d+1+1));rw [R2_self] at F;rw [F,qfB n d (R2 M (i+d+1) (M (i+d+1+1)) (M (i+d+1))) i (by omega) (fun c H=>by
   have:¬i=i+d+1:=by omega
   have G:¬i=i+d+1+1:=by omega
   simp only [R2,this,G,if_false,if_true];exact h c H)]
  rfl
theorem qiL (n:Nat) (M K:Nat->Nat->Int) (i s:Nat) (a:Int) (H:i<n) (Z:s<n) (G:i≠s) (U:∀c,c<n->K i c=M i c+a*M s c) (V:∀r c,r<n->c<n->r≠i->K r c=M r c):det n K=det n M:=by
 have I:=qdT n M (fun r c=>if r=i then a*M s c else M r c) K i H (fun c F=>by simp [U c F]) fun r c Y F E=>by
  rw [V r c Y F E];simp [E]
 have J:=qdU n (fun r c=>if r=i then M s c else M r c) (fun r c=>if r=i then a*M s c else M r c) i a H (fun c _=>by simp) fun r c _ _ E=>by simp [E]
 have O:det n (fun r c=>if r=i then M s c else M r c)=0:=by
  rcases Nat.lt_or_gt_of_ne G with h | h
  ·obtain⟨d,rfl⟩:∃d,s=i+d+1:=⟨s-i-1,by omega⟩;refine qfB n d _ i (by omega) fun c _=>?_
   have:¬i+d+1=i:=by omega
   simp [this]
  ·obtain⟨d,rfl⟩:∃d,i=s+d+1:=⟨i-s-1,by omega⟩;refine qfB n d _ s (by omega) fun c _=>?_
   have:¬s=s+d+1:=by omega
   simp [this]
 rw [I,J,O,qbH,Int.add_zero]
theorem qdN (n:Nat) (f:Nat->Int):sumN (n+1) f=f 0+sumN n fun i=>f (i+1):=by
 induction n with
 | zero=>simp [sumN]
 | succ n ih =>
  have:sumN (n+1+1) f=sumN (n+1) f+f (n+1):=rfl;rw [this,ih];simp only [sumN];omega
theorem qma (j:Nat):sg (j+1) = - sg j:=by
 unfold sg
 (repeat' split) <;> first | omega | (exfalso;omega)
theorem qdt (r:Nat):skip 0 r=r+1:=by unfold skip;rw [if_neg (by omega)]
theorem qeA (j:Nat):skip (j+1) 0=0:=by unfold skip;rw [if_pos (by omega)]
theorem qez (j c:Nat):skip (j+1) (c+1)=skip j c+1:=by unfold skip;(repeat' split) <;> omega
theorem qiN:∀(n:Nat) (M:Nat->Nat->Int),det (n+1) M=sumN (n+1) fun i=>sg i*M i 0*det n fun r c=>M (skip i r) (c+1)
 | 0,M=>by
  show sumN 1 _=sumN 1 _
  exact qb4 fun i I=>by
   obtain rfl:i=0:=by omega
   rfl
 | n+1,M=>by
  show sumN (n+1+1) (fun j=>sg j*M 0 j*det (n+1) fun r c=>M (r+1) (skip j c))=_
  rw [qdN,qdN (n+1)];have E:∀a b c d:Int,a=c->b=d->a+b=c+d:=fun a b c d h k=>by rw [h,k]
  refine E _ _ _ _ ?_ ?_
  ·have F:(fun r c=>M (r+1) (skip 0 c))=fun r c=>M (skip 0 r) (c+1):=by
    funext r c
    rw [qdt,qdt]
   rw [F]
  ·have G:∀j,sg (j+1)*M 0 (j+1)*det (n+1) (fun r c=>M (r+1) (skip (j+1) c))=sumN (n+1) fun i=>- (sg j*sg i*(M 0 (j+1)*M (i+1) 0)*det n fun r c=>M (skip i r+1) (skip j c+1)):=by
    intro j;rw [qiN n,<-qfb];refine qb4 fun i _=>?_
    simp only [qeA,qez,qma];simp only [qbu,Int.mul_neg,qbt,Int.mul_left_comm]
   have H:∀i,sg (i+1)*M (i+1) 0*det (n+1) (fun r c=>M (skip (i+1) r) (c+1))=sumN (n+1) fun j=>- (sg j*sg i*(M 0 (j+1)*M (i+1) 0)*det n fun r c=>M (skip i r+1) (skip j c+1)):=by
    intro i
    show _*sumN (n+1) (fun j=>sg j*M (skip (i+1) 0) (j+1)*det n fun r c=>M (skip (i+1) (r+1)) (skip j c+1))=_
    rw [<-qfb];refine qb4 fun j _=>?_
    simp only [qeA,qez,qma];simp only [qbu,Int.mul_neg,qbt,Int.mul_left_comm,qbb]
   rw [qb4 fun j _=>G j,qb4 fun i _=>H i,qit]
theorem qjr:∀(n:Nat) (M:Nat->Nat->Int),det n (fun r c=>M c r)=det n M
 | 0,_=>rfl
 | n+1,M=>by
  rw [qiN n M]
  show sumN (n+1) (fun j=>sg j*M j 0*det n fun r c=>M (skip j c) (r+1))=_
  exact qb4 fun j _=>by rw [qjr n fun r c=>M (skip j r) (c+1)]
theorem qhh (n:Nat) (i:Nat) (J:i<2):∀(m:Nat) (M K:Nat->Nat->Int) (L:Nat->Int),m+2<=n->(∀c,c<n->K i c=M i c+sumN m fun s=>L s*M (s+2) c)->(∀r c,r<n->c<n->r≠i->K r c=M r c)->det n K=det n M
 | 0,M,K,L,O,H,ho=>qd6 n K M fun r c F E=>by
  by_cases h:r=i
  ·subst h;rw [H c E];simp [sumN]
  ·exact ho r c F E h
 | m+1,M,K,L,O,H,ho=>by
  have I:=qhh n i J m M (fun r c=>if r=i then M i c+sumN m (fun s=>L s*M (s+2) c) else M r c) L (by omega) (fun c _=>by simp) fun r c _ _ F=>by simp [F]
  rw [<-I];refine qiL n _ K i (m+2) (L m) (by omega) (by omega) (by omega) (fun c E=>?_) fun r c F E G=>by rw [ho r c F E G];simp [G]
  have:¬m+2=i:=by omega
  rw [H c E];simp only [sumN,this,if_true,if_false];omega
def bord (k:Nat) (M:Nat->Nat->Int) (a c:Nat):Int:=det (k+1) fun r x=>M (if r=0 then a else r+1) (if x=0 then c else x+1)
def steps (k:Nat) (M:Nat->Nat->Int):Int:=det k fun r c=>M (r+2) (c+2)
def lam (k:Nat) (M:Nat->Nat->Int) (a s:Nat):Int:=sg (s+1)*det k fun r x=>M (if skip (s+1) r=0 then a else skip (s+1) r+1) (x+2)
theorem qhL (k:Nat) (M:Nat->Nat->Int) (a c:Nat):bord k M a c=steps k M*M a c+sumN k fun s=>lam k M a s*M (s+2) c:=by
 unfold bord steps;rw [qiN,qdN];have E:∀a b c d:Int,a=c->b=d->a+b=c+d:=fun a b c d h k=>by rw [h,k]
 refine E _ _ _ _ ?_ (qb4 fun s G=>?_)
 ·have e:(fun r x=>M (if skip 0 r=0 then a else skip 0 r+1) (if x+1=0 then c else x+1+1))=fun r x=>M (r+2) (x+2):=by
   funext r x
   rw [qdt];simp
  rw [e];simp [sg,qbb]
 ·have F:¬s+1=0:=by omega
  have e:(fun r x=>M (if skip (s+1) r=0 then a else skip (s+1) r+1) (if x+1=0 then c else x+1+1))=fun r x=>M (if skip (s+1) r=0 then a else skip (s+1) r+1) (x+2):=by
   funext r x;simp
  rw [e];unfold lam;simp only [F,if_true,if_false,qbt,qbb]
theorem qhM (k:Nat) (M:Nat->Nat->Int) (a c:Nat) (E:c<k):bord k M a (c+2)=0:=by
 unfold bord;rw [<-qjr];refine qfB (k+1) c _ 0 (by omega) fun r _=>?_
 have:¬0+c+1=0:=by omega
 simp only [this,if_true,if_false];rw [show 0+c+1+1=c+2 by omega]
theorem qfa (n:Nat) (f:Nat->Int) (h:∀i,i<n->f (i+1)=0):sumN (n+1) f=f 0:=by
 rw [qdN,qgp n _ h,Int.add_zero]
theorem sg0:sg 0=1:=rfl
theorem sg1:sg 1 = -1:=rfl
def cleared (k:Nat) (M:Nat->Nat->Int):Nat->Nat->Int:=fun r c=>if r=0 then bord k M 0 c else if r=1 then bord k M 1 c else M r c
theorem qiM (k:Nat) (M:Nat->Nat->Int):det (k+2) (cleared k M)=steps k M*(steps k M*det (k+2) M):=by
 have G:det (k+2) (fun r c=>if r=0 then steps k M*M 0 c else M r c)=steps k M*det (k+2) M :=
  qdU (k+2) M _ 0 (steps k M) (by omega) (fun c _=>by simp) fun r c _ _ E=>by simp [E]
 have H:det (k+2) (fun r c=>if r=0 then bord k M 0 c else M r c)=det (k+2) (fun r c=>if r=0 then steps k M*M 0 c else M r c) :=
  qhh (k+2) 0 (by omega) k _ _ (lam k M 0) qN (fun c _=>by
   show bord k M 0 c=_
   rw [qhL];simp) fun r c _ _ E=>by simp [E]
 have I:det (k+2) (fun r c=>if r=1 then steps k M*M 1 c else if r=0 then bord k M 0 c else M r c)=steps k M*det (k+2) (fun r c=>if r=0 then bord k M 0 c else M r c) :=
  qdU (k+2) _ _ 1 (steps k M) (by omega) (fun c _=>by simp) fun r c _ _ E=>by simp [E]
 have J:det (k+2) (cleared k M)=det (k+2) (fun r c=>if r=1 then steps k M*M 1 c else if r=0 then bord k M 0 c else M r c) :=
  qhh (k+2) 1 (by omega) k _ _ (lam k M 1) qN (fun c _=>by
   show bord k M 1 c=_
   rw [qhL];simp) fun r c _ _ E=>by
    by_cases F:r=0
    ·subst F;simp [cleared]
    ·simp [cleared,E,F]
 rw [J,I,H,G]
theorem qhQ (k:Nat) (M:Nat->Nat->Int):det (k+2) (cleared k M)=(bord k M 0 0*bord k M 1 1-bord k M 0 1*bord k M 1 0)*steps k M:=by
 have z0:∀c,c<k->cleared k M 0 (c+2)=0:=fun c F=>qhM k M 0 c F
 have H:∀c,c<k->cleared k M 1 (c+2)=0:=fun c F=>qhM k M 1 c F
 have a:det (k+1) (fun r c=>cleared k M (r+1) (skip 0 c))=bord k M 1 1*steps k M:=by
  show sumN (k+1) (fun j=>sg j*cleared k M 1 (skip 0 j)*det k fun r c=>cleared k M (r+2) (skip 0 (skip j c)))=_
  rw [qfa k _ fun i E=>by
   simp only [qdt];rw [H i E,qbH,Int.zero_mul]]
  have e:(fun r c=>cleared k M (r+2) (skip 0 (skip 0 c)))=fun r c=>M (r+2) (c+2):=by
   funext r c
   simp [qdt,cleared]
  rw [e,sg0,Int.one_mul]
  rfl
 have b:det (k+1) (fun r c=>cleared k M (r+1) (skip 1 c))=bord k M 1 0*steps k M:=by
  show sumN (k+1) (fun j=>sg j*cleared k M 1 (skip 1 j)*det k fun r c=>cleared k M (r+2) (skip 1 (skip j c)))=_
  have G:∀c,skip 1 (c+1)=c+2:=fun c=>by unfold skip;rw [if_neg (by omega)]
  rw [qfa k _ fun i E=>by
   rw [G,H i E,qbH,Int.zero_mul]]
  have e:(fun r c=>cleared k M (r+2) (skip 1 (skip 0 c)))=fun r c=>M (r+2) (c+2):=by
   funext r c
   rw [qdt,G];simp [cleared]
  rw [e,sg0,Int.one_mul]
  rfl
 show sumN (k+1+1) (fun j=>sg j*cleared k M 0 j*det (k+1) fun r c=>cleared k M (r+1) (skip j c))=_
 rw [qdN,qfa k _ fun i E=>by rw [z0 i E,qbH,Int.zero_mul]];simp only [qaL];rw [a,b,sg0,sg1,Int.one_mul]
 show bord k M 0 0*(bord k M 1 1*steps k M) + -1*bord k M 0 1*(bord k M 1 0*steps k M)=_
 rw [Int.sub_mul,qbu,Int.one_mul,qbu,qbt,qbt];omega
theorem qmk (k:Nat) (M:Nat->Nat->Int) (E:steps k M≠0):bord k M 0 0*bord k M 1 1-bord k M 0 1*bord k M 1 0=steps k M*det (k+2) M:=by
 have h:=(qhQ k M).symm.trans (qiM k M);rw [qbb _ (steps k M)] at h;exact Int.eq_of_mul_eq_mul_left E h
def sumQ:Nat->(Nat->Rat)->Rat
 | 0,_=>0
 | n+1,f=>sumQ n f+f n
theorem qbS:∀{n:Nat} {f g:Nat->Rat},(∀i,i<n->f i=g i)->sumQ n f=sumQ n g
 | 0,_,_,_=>rfl
 | n+1,f,g,h=>by
  show sumQ n f+f n=sumQ n g+g n
  rw [qbS fun i E=>h i (by omega),h n (by omega)]
theorem qcC:∀(n:Nat) (f:Nat->Rat),(∀i,i<n->f i=0)->sumQ n f=0
 | 0,_,_=>rfl
 | n+1,f,h=>by
  show sumQ n f+f n=0
  rw [qcC n f fun i E=>h i (by omega),h n (by omega)];grind
theorem qc7:∀(n:Nat) (f g:Nat->Rat),sumQ n (fun i=>f i+g i)=sumQ n f+sumQ n g
 | 0,_,_=>by simp [sumQ];try grind
 | n+1,f,g=>by
  show sumQ n (fun i=>f i+g i)+(f n+g n)=sumQ n f+f n+(sumQ n g+g n)
  rw [qc7 n f g];grind
theorem qb3:∀(n:Nat) (a:Rat) (f:Nat->Rat),sumQ n (fun i=>a*f i)=a*sumQ n f
 | 0,a,_=>by simp [sumQ]
 | n+1,a,f=>by
  show sumQ n (fun i=>a*f i)+a*f n=a*(sumQ n f+f n)
  rw [qb3 n a f];grind
theorem qdO:∀(n m:Nat) (f:Nat->Nat->Rat),sumQ n (fun i=>sumQ m fun j=>f i j)=sumQ m fun j=>sumQ n fun i=>f i j
 | 0,m,f=>(qcC m _ fun _ _=>rfl).symm
 | n+1,m,f=>by
  show sumQ n (fun i=>sumQ m fun j=>f i j)+sumQ m (fun j=>f n j)=sumQ m fun j=>(sumQ n (fun i=>f i j)+f n j)
  rw [qdO n m f,qc7]
theorem qdx:∀(n k:Nat) (f:Nat->Rat),k<n->(∀i,i<n->i≠k->f i=0)->sumQ n f=f k
 | 0,k,_,h,_=>absurd h (by omega)
 | n+1,k,f,h,h0=>by
  show sumQ n f+f n=f k
  by_cases e:k=n
  ·subst e;rw [qcC k f fun i F=>h0 i (by omega) (by omega)];grind
  ·rw [qdx n k f (by omega) fun i F E=>h0 i (by omega) E,h0 n (by omega) (fun h=>e h.symm)];grind
theorem sumQ_two (n k l:Nat) (f:Nat->Rat) (J:k<n) (O:l<n) (G:k≠l) (H:∀i,i<n->i≠k->i≠l->f i=0):sumQ n f=f k+f l:=by
 have e:sumQ n f=sumQ n (fun i=>(if i=k then f i else 0)+(if i=k then 0 else f i)):=qbS fun i _=>by split <;> grind
 rw [e,qc7,qdx n k _ J (fun i _ E=>if_neg E),qdx n l _ O (fun i I F=>by
  by_cases h:i=k
  ·rw [if_pos h]
  ·rw [if_neg h];exact H i I h F),if_pos rfl,if_neg (fun h=>G h.symm)]
theorem qfy:∀(n m:Nat) (f:Nat->Rat),sumQ (n+m) f=sumQ n f+sumQ m fun i=>f (n+i)
 | n,0,f=>by simp [sumQ];try grind
 | n,m+1,f=>by
  show sumQ (n+m) f+f (n+m)=sumQ n f+(sumQ m (fun i=>f (n+i))+f (n+m))
  rw [qfy n m f];grind
def Span (R n:Nat) (A:Nat->Nat->Rat) (v:Nat->Rat):Prop:=∃c:Nat->Rat,∀j,j<n->v j=sumQ R fun i=>c i*A i j
theorem Span.row {R n:Nat} {A:Nat->Nat->Rat} {i:Nat} (E:i<R):Span R n A (A i) :=
 ⟨fun k=>if k=i then 1 else 0,fun j _=>by
  rw [qdx R i _ E (fun k _ F=>by simp [F])];simp⟩
theorem Span.congr {R n:Nat} {A B:Nat->Nat->Rat} {v u:Nat->Rat} (h:Span R n A v) (F:∀i,i<R->∀j,j<n->A i j=B i j) (I:∀j,j<n->v j=u j):Span R n B u:=by
 obtain⟨c,G⟩:=h;exact⟨c,fun j E=>by rw [<-I j E,G j E];exact qbS fun i H=>by rw [F i H j E]⟩
theorem Span.comb {R n:Nat} {A:Nat->Nat->Rat} {u v:Nat->Rat} (H:Span R n A u) (I:Span R n A v) (a b:Rat):Span R n A (fun j=>a*u j+b*v j):=by
 obtain⟨c,F⟩:=H;obtain⟨d,G⟩:=I;refine⟨fun i=>a*c i+b*d i,fun j E=>?_⟩
 show a*u j+b*v j=_
 rw [F j E,G j E,<-qb3,<-qb3,<-qc7];exact qbS fun i _=>by grind
theorem Span.trans {R S n:Nat} {A B:Nat->Nat->Rat} {v:Nat->Rat} (h:Span R n A v) (H:∀i,i<R->Span S n B (A i)):Span S n B v:=by
 obtain⟨c,I⟩:=h;have:∀i,∃d:Nat->Rat,i<R->∀j,j<n->A i j=sumQ S fun k=>d k*B k j:=fun i=>by
  by_cases E:i<R
  ·obtain⟨d,J⟩:=H i E;exact⟨d,fun _=>J⟩
  ·exact⟨fun _=>0,fun h=>absurd h E⟩
 refine⟨fun k=>sumQ R fun i=>c i*(Classical.choose (this i)) k,fun j F=>?_⟩;rw [I j F];have G:sumQ S (fun k=>sumQ R (fun i=>c i*(Classical.choose (this i)) k)*B k j)=sumQ S fun k=>sumQ R fun i=>c i*((Classical.choose (this i)) k*B k j):=qbS fun k _=>by
  rw [show sumQ R (fun i=>c i*(Classical.choose (this i)) k)*B k j=B k j*sumQ R (fun i=>c i*(Classical.choose (this i)) k) by grind,<-qb3];exact qbS fun i _=>by grind
 rw [G,<-qdO];refine qbS fun i E=>?_
 rw [qb3,Classical.choose_spec (this i) E j F]
def qcY (R S n:Nat) (A B:Nat->Nat->Rat):Prop:=(∀i,i<R->Span S n B (A i))/\∀i,i<S->Span R n A (B i)
theorem qcY.refl (R n:Nat) (A:Nat->Nat->Rat):qcY R R n A A:=⟨fun _ E=>Span.row E,fun _ E=>Span.row E⟩
theorem qcY.symm {R S n:Nat} {A B:Nat->Nat->Rat} (h:qcY R S n A B):qcY S R n B A:=⟨h.2,h.1⟩
theorem qcY.trans {R S T n:Nat} {A B C:Nat->Nat->Rat} (h:qcY R S n A B) (k:qcY S T n B C):qcY R T n A C :=
 ⟨fun i E=>(h.1 i E).trans k.1,fun i E=>(k.2 i E).trans h.2⟩
def sel {α:Type} (a:α) (P:Nat->α):Nat->α
 | 0=>a
 | s+1=>P s
def BR (k:Nat) (P:Nat->Nat->Int) (σ:Nat->Nat) (a:Nat->Int) (j:Nat):Int:=det (k+1) fun r x=>sel a P r (sel j σ x)
def DR (k:Nat) (P:Nat->Nat->Int) (σ:Nat->Nat):Int:=det k fun r x=>P r (σ x)
theorem qiC (P:Nat->Nat->Int) (σ:Nat->Nat) (a:Nat->Int) (j:Nat):BR 0 P σ a j=a j:=by
 show sumN 1 _=_
 show 0+sg 0*a j*1=a j
 rw [sg0];omega
theorem qdQ {k:Nat} {P:Nat->Nat->Int} {σ:Nat->Nat} (I:DR k P σ≠0) (a p:Nat->Int) (c j:Nat) :
  BR k P σ a j*BR k P σ p c-BR k P σ a c*BR k P σ p j=DR k P σ*BR (k+1) (sel p P) (sel c σ) a j:=by
 have h:=qmk k (fun r x=>sel a (sel p P) r (sel j (sel c σ) x)) I;have E:bord k (fun r x=>sel a (sel p P) r (sel j (sel c σ) x)) 0 0=BR k P σ a j:=by
  unfold bord BR
  congr 1;funext r x
  cases r <;> cases x <;> rfl
 have H:bord k (fun r x=>sel a (sel p P) r (sel j (sel c σ) x)) 1 1=BR k P σ p c:=by
  unfold bord BR
  congr 1;funext r x
  cases r <;> cases x <;> rfl
 have F:bord k (fun r x=>sel a (sel p P) r (sel j (sel c σ) x)) 0 1=BR k P σ a c:=by
  unfold bord BR
  congr 1;funext r x
  cases r <;> cases x <;> rfl
 have G:bord k (fun r x=>sel a (sel p P) r (sel j (sel c σ) x)) 1 0=BR k P σ p j:=by
  unfold bord BR
  congr 1;funext r x
  cases r <;> cases x <;> rfl
 rw [E,H,F,G] at h;exact h
theorem qiD (k:Nat) (P:Nat->Nat->Int) (σ:Nat->Nat) (p:Nat->Int) (c:Nat):DR (k+1) (sel p P) (sel c σ)=BR k P σ p c:=rfl
theorem qhb (k:Nat) (P:Nat->Nat->Int) (σ:Nat->Nat) (a:Nat->Int) (j:Nat) (h:∀s,s<k->a (σ s)=0):BR k P σ a j=DR k P σ*a j:=by
 show sumN (k+1) (fun x=>sg x*sel a P 0 (sel j σ x)*det k fun r c=>sel a P (r+1) (sel j σ (skip x c)))=_
 rw [qfa k _ fun i E=>by
  show sg (i+1)*a (σ i)*_=0
  rw [h i E,qbH,Int.zero_mul]]
 have e:(fun r c=>sel a P (r+1) (sel j σ (skip 0 c)))=fun r x=>P r (σ x):=by
  funext r c;rw [qdt];rfl
 rw [e,sg0,Int.one_mul,qbb];rfl
abbrev castM (M:Nat->Nat->Int):Nat->Nat->Rat:=fun i j=>(M i j:Rat)
def qbY (f:Nat->Bool) (M:Nat->Nat->Int) (p c:Nat) (D:Int):Nat->Nat->Int:=fun i=>if f i=true/\i≠p then fun j=>(M p c*M i j-M i c*M p j).tdiv D else M i
theorem qir {f:Nat->Bool} {R n p c:Nat} {M:Nat->Nat->Int} {D:Int} (U:p<R) (V:D≠0) (Z:M p c≠0) (hx:∀i,i<R->f i=true->i≠p->∀j,j<n->D∣M p c*M i j-M i c*M p j):qcY R R n (castM M) (castM (qbY f M p c D)):=by
 have Y:(D:Rat)≠0:=by exact_mod_cast V
 have aa:(M p c:Rat)≠0:=by exact_mod_cast Z
 have G:∀i,i<R->f i=true->i≠p->∀j,j<n->(D:Rat)*((qbY f M p c D i j:Int):Rat)=M p c*M i j-M i c*M p j:=by
  intro i F O I j J;have e:qbY f M p c D i j=(M p c*M i j-M i c*M p j).tdiv D:=by unfold qbY;rw [if_pos ⟨O,I⟩]
  have:=Int.mul_tdiv_cancel' (hx i F O I j J);rw [e]
  exact_mod_cast this
 have E:∀i,¬(f i=true/\i≠p)->qbY f M p c D i=M i:=fun i h=>by unfold qbY;rw [if_neg h]
 have H:qbY f M p c D p=M p:=E p (fun h=>h.2 rfl);refine⟨fun i F=>?_,fun i F=>?_⟩
 ·by_cases h:f i=true/\i≠p
  ·refine Span.congr (Span.comb (Span.row (A:=castM (qbY f M p c D)) F) (Span.row (A:=castM (qbY f M p c D)) U) ((D:Rat) / M p c) ((M i c:Rat) / M p c)) (fun _ _ _ _=>rfl) fun j J=>?_
   have:=G i F h.1 h.2 j J
   show (D:Rat) / M p c*((qbY f M p c D i j:Int):Rat)+(M i c:Rat) / M p c*((qbY f M p c D p j:Int):Rat)=(M i j:Rat)
   rw [H]
   grind
  ·have:=Span.row (R:=R) (n:=n) (A:=castM (qbY f M p c D)) (i:=i) F;exact Span.congr this (fun _ _ _ _=>rfl) fun j _=>by show ((qbY f M p c D i j:Int):Rat)=_;rw [E i h]
 ·by_cases h:f i=true/\i≠p
  ·refine Span.congr (Span.comb (Span.row (A:=castM M) F) (Span.row (A:=castM M) U) ((M p c:Rat) / D) (-(M i c:Rat) / D)) (fun _ _ _ _=>rfl) fun j J=>?_
   have:=G i F h.1 h.2 j J
   show (M p c:Rat) / D*(M i j:Rat) + -(M i c:Rat) / D*(M p j:Rat)=((qbY f M p c D i j:Int):Rat)
   grind
  ·have:=Span.row (R:=R) (n:=n) (A:=castM M) (i:=i) F;exact Span.congr this (fun _ _ _ _=>rfl) fun j _=>by show (M i j:Rat)=((qbY f M p c D i j:Int):Rat);rw [E i h]
def qb6 {α:Type} (M:Nat->α) (k a:Nat):Nat->α:=fun j=>if j=k then M a else if j=a then M k else M j
theorem qis {R n k a:Nat} {M:Nat->Nat->Int} (I:k<R) (H:a<R):qcY R R n (castM M) (castM (qb6 M k a)):=by
 have row:∀i l,i<R->qb6 M k a i=M l->Span R n (castM (qb6 M k a)) (castM M l):=fun i l G h =>
  Span.congr (Span.row (R:=R) (n:=n) (A:=castM (qb6 M k a)) (i:=i) G) (fun _ _ _ _=>rfl) fun j _=>by show ((qb6 M k a i j:Int):Rat)=_;rw [h]
 have E:∀i l,l<R->qb6 M k a i=M l->Span R n (castM M) (castM (qb6 M k a) i):=fun i l J h =>
  Span.congr (Span.row (R:=R) (n:=n) (A:=castM M) (i:=l) J) (fun _ _ _ _=>rfl) fun j _=>by show (M l j:Rat)=((qb6 M k a i j:Int):Rat);rw [h]
 refine⟨fun i G=>?_,fun i G=>?_⟩
 ·by_cases e:i=k
  ·subst e
   by_cases F:a=i
   ·subst F;exact row a a H (by unfold qb6;rw [if_pos rfl])
   ·exact row a i H (by unfold qb6;rw [if_neg F,if_pos rfl])
  ·by_cases F:i=a
   ·subst F;exact row k i I (by unfold qb6;rw [if_pos rfl])
   ·exact row i i G (by unfold qb6;rw [if_neg e,if_neg F])
 ·by_cases e:i=k
  ·exact E i a H (by unfold qb6;rw [if_pos e])
  ·by_cases F:i=a
   ·exact E i k I (by unfold qb6;rw [if_neg e,if_pos F])
   ·exact E i i G (by unfold qb6;rw [if_neg e,if_neg F])
theorem qmj {α:Type} {M:Nat->α} {k a i:Nat} (F:i<k) (E:k<=a):qb6 M k a i=M i:=by unfold qb6;rw [if_neg (by omega),if_neg (by omega)]
structure ElimSt (R n k:Nat) (D:Int) (M A:Nat->Nat->Int):Prop where
 span:qcY R R n (castM M) (castM A)
 dets:∃(P:Nat->Nat->Int) (σ:Nat->Nat) (a:Nat->Nat->Int),DR k P σ=D/\(∀s,s<k->σ s<k)/\(∀i,k<=i->i<R->∀j,j<n->M i j=BR k P σ (a i) j) /\
  ∀i,i<k->∀j,j<n->M i j=D*(if j=i then 1 else 0)-BR k P σ (fun x=>if x=i then 1 else 0) j
 diag:∀i,i<R->∀c,c<k->M i c=if i=c then D else 0
 nz:D≠0
theorem ElimSt.start (R n:Nat) (A:Nat->Nat->Int):ElimSt R n 0 1 A A :=
 ⟨qcY.refl _ _ _,⟨fun _ _=>0,fun _=>0,A,rfl,fun s G=>absurd G (by omega),fun i _ _ j _=>(qiC _ _ _ _).symm,fun i E=>absurd E (by omega)⟩,fun _ _ j F=>absurd F (by omega),by decide⟩
theorem ElimSt.swap {R n k a:Nat} {D:Int} {M A:Nat->Nat->Int} (h:ElimSt R n k D M A) (U:k<=a) (H:a<R):ElimSt R n k D (qb6 M k a) A:=by
 have O:k<R:=by omega
 refine⟨(qis O H).symm.trans h.span,?_,?_,h.nz⟩
 ·obtain⟨P,σ,b,V,hσ,I,hl⟩:=h.dets;refine⟨P,σ,qb6 b k a,V,hσ,fun i F Y j G=>?_,fun i F j G=>by rw [qmj F U];exact hl i F j G⟩;unfold qb6
  by_cases e:i=k
  ·rw [if_pos e,if_pos e];exact I a U H j G
  ·by_cases E:i=a
   ·rw [if_neg e,if_neg e,if_pos E,if_pos E];exact I k qN O j G
   ·rw [if_neg e,if_neg e,if_neg E,if_neg E];exact I i F Y j G
 ·intro i F c J;have Z:=h.diag i F c J;unfold qb6
  by_cases e:i=k
  ·rw [if_pos e,h.diag a H c J,if_neg (by omega),if_neg (by omega)]
  ·by_cases E:i=a
   ·rw [if_neg e,if_pos E,h.diag k O c J,if_neg (by omega),if_neg (by omega)]
   ·rw [if_neg e,if_neg E,Z]
theorem ElimSt.next {R n k:Nat} {D:Int} {M A:Nat->Nat->Int} (h:ElimSt R n k D M A) (hk:k<R) (V:k<n) (h0:M k k≠0):ElimSt R n (k+1) (M k k) (qbY (fun _=>true) M k k D) A:=by
 obtain⟨P,σ,b,Z,hσ,hb,hl⟩:=h.dets;have O:DR k P σ≠0:=by rw [Z];exact h.nz
 have U:∀j,j<n->M k j=BR k P σ (b k) j:=hb k qN hk;have H:∀i,i≠k->∀j,qbY (fun _=>true) M k k D i j=(M k k*M i j-M i k*M k j).tdiv D:=fun i G j=>by
  unfold qbY;rw [if_pos ⟨rfl,G⟩]
 have I:qbY (fun _=>true) M k k D k=M k:=by unfold qbY;rw [if_neg (fun h=>h.2 rfl)]
 have aa:∀i,k<i->i<R->∀j,j<n->M k k*M i j-M i k*M k j=D*BR (k+1) (sel (b k) P) (sel k σ) (b i) j:=fun i G hR j F=>by
  have:=qdQ O (b i) (b k) k j;rw [Z,<-hb i (by omega) hR j F,<-U k V,<-hb i (by omega) hR k V,<-U j F] at this;rw [<-this,qbb (M i j)]
 have ae:∀i,i<k->∀j,j<n->M k k*M i j-M i k*M k j=D*(M k k*(if j=i then 1 else 0)-BR (k+1) (sel (b k) P) (sel k σ) (fun x=>if x=i then 1 else 0) j):=fun i G j F=>by
  have:=qdQ O (fun x=>if x=i then 1 else 0) (b k) k j;rw [Z,<-U k V,<-U j F] at this;rw [hl i G j F,hl i G k V,if_neg (by omega:¬k=i),Int.mul_sub D,<-this];generalize BR k P σ (fun x=>if x=i then 1 else 0) j=X;generalize BR k P σ (fun x=>if x=i then 1 else 0) k=Y;generalize (if j=i then (1:Int) else 0)=E;rw [qbH,Int.zero_sub,qbu,Int.sub_neg,Int.mul_sub,qbb X,Int.mul_left_comm (M k k) D];omega
 have ag:∀j,j<n->M k j=M k k*(if j=k then 1 else 0)-BR (k+1) (sel (b k) P) (sel k σ) (fun x=>if x=k then 1 else 0) j:=fun j F=>by
  have:=qdQ O (fun x=>if x=k then 1 else 0) (b k) k j;rw [Z,<-U k V,<-U j F,qhb k P σ _ j (fun s hs=>if_neg (by have:=hσ s hs;omega)),qhb k P σ _ k (fun s hs=>if_neg (by have:=hσ s hs;omega)),Z,if_pos rfl] at this;have e:D*(M k k*(if j=k then 1 else 0)-M k j)=D*BR (k+1) (sel (b k) P) (sel k σ) (fun x=>if x=k then 1 else 0) j:=by
   rw [<-this,Int.mul_sub,Int.mul_one];generalize (if j=k then (1:Int) else 0)=E;rw [qbt,qbb E]
  have:=Int.eq_of_mul_eq_mul_left h.nz e;omega
 refine⟨(qir hk h.nz h0 fun i G _ af j F=>?_).symm.trans h.span,⟨sel (b k) P,sel k σ,b,by rw [qiD];exact (U k V).symm,?_,fun i G hR j F=>?_,fun i G j F=>?_⟩,fun i G c ah=>?_,h0⟩
 ·rcases Nat.lt_or_gt_of_ne af with e | e
  ·exact⟨_,ae i e j F⟩
  ·exact⟨_,aa i e G j F⟩
 ·intro s hs;cases s with
  | zero=>show k<k+1;omega
  | succ s=>show σ s<k+1;have:=hσ s (by omega);omega
 ·rw [H i (by omega) j,aa i (by omega) hR j F,Int.mul_tdiv_cancel_left _ h.nz]
 ·by_cases e:i=k
  ·subst e;rw [I];exact ag j F
  ·rw [H i e j,ae i (by omega) j F,Int.mul_tdiv_cancel_left _ h.nz]
 ·by_cases e:i=k
  ·subst e;rw [I]
   by_cases J:i=c
   ·rw [if_pos J,J]
   ·rw [if_neg J,h.diag i G c (by omega),if_neg J]
  ·rw [H i e c]
   by_cases J:c=k
   ·subst J;rw [if_neg e,qbb,Int.sub_self];exact Int.zero_tdiv _
   ·rw [h.diag i G c (by omega),h.diag k hk c (by omega),if_neg (fun h:k=c=>J h.symm),qbH,Int.sub_zero]
    by_cases e3:i=c
    ·rw [if_pos e3,if_pos e3,Int.mul_tdiv_cancel _ h.nz]
    ·rw [if_neg e3,if_neg e3,qbH];exact Int.zero_tdiv _
def Sing (R:Nat) (A:Nat->Nat->Rat):Prop:=∃y:Nat->Rat,(∃j,j<R/\y j≠0)/\∀i,i<R->sumQ R (fun j=>A i j*y j)=0
def qcv (R:Nat) (A:Nat->Nat->Rat) (b x:Nat->Rat):Prop:=∀i,i<R->sumQ R (fun j=>A i j*x j)=b i
theorem qcv.uniq {R:Nat} {A:Nat->Nat->Rat} {b x y:Nat->Rat} (h:¬Sing R A) (G:qcv R A b x) (H:qcv R A b y):∀i,i<R->x i=y i:=by
 intro i F;apply Classical.byContradiction;intro hne;refine h ⟨fun j=>x j-y j,⟨i,F,fun h=>hne (by grind)⟩,fun k E=>?_⟩;have e:sumQ R (fun j=>A k j*(x j-y j))=sumQ R (fun j=>A k j*x j)+(-1)*sumQ R (fun j=>A k j*y j):=by
  rw [<-qb3,<-qc7];exact qbS fun j _=>by grind
 rw [e,G k E,H k E];grind
theorem Sing.congr {R:Nat} {A B:Nat->Nat->Rat} (h:Sing R A) (e:∀i,i<R->∀j,j<R->A i j=B i j):Sing R B:=by
 obtain⟨y,H,F⟩:=h;exact⟨y,H,fun i E=>by rw [<-F i E];exact qbS fun j G=>by rw [e i E j G]⟩
theorem qcv.congr {R:Nat} {A B:Nat->Nat->Rat} {b c x y:Nat->Rat} (h:qcv R A b x) (e:∀i,i<R->∀j,j<R->A i j=B i j) (G:∀i,i<R->b i=c i) (ex:∀i,i<R->x i=y i):qcv R B c y:=fun i E=>by
 rw [<-G i E,<-h i E];exact qbS fun j F=>by rw [e i E j F,ex j F]
theorem Span.kill {R n:Nat} {A:Nat->Nat->Rat} {v y:Nat->Rat} (h:Span R n A v) (E:∀i,i<R->sumQ n (fun j=>A i j*y j)=0):sumQ n (fun j=>v j*y j)=0:=by
 obtain⟨c,F⟩:=h;have e:sumQ n (fun j=>v j*y j)=sumQ n fun j=>sumQ R fun i=>c i*(A i j*y j):=qbS fun j H=>by
  rw [F j H,show sumQ R (fun i=>c i*A i j)*y j=y j*sumQ R (fun i=>c i*A i j) by grind,<-qb3];exact qbS fun i _=>by grind
 rw [e,qdO];refine qcC _ _ fun i G=>?_
 rw [qb3,E i G];grind
theorem qgq (n:Nat) (f x:Nat->Rat) (a:Rat):sumQ (n+1) (fun j=>f j*(if j<n then x j else a))=sumQ n (fun j=>f j*x j)+f n*a:=by
 show sumQ n _+f n*(if n<n then x n else a)=_
 rw [if_neg (Nat.lt_irrefl n)]
 congr 1
 exact qbS fun j E=>by rw [if_pos E]
theorem qk0 {R n k:Nat} {D:Int} {M A:Nat->Nat->Int} (h:ElimSt R n k D M A) (hn:R<=n) (Z:k<R) (O:∀i,k<=i->i<R->M i k=0):Sing R (castM A):=by
 have U:(D:Rat)≠0:=by exact_mod_cast h.nz
 refine⟨fun j=>if j<k then -(M j k:Rat) else if j=k then (D:Rat) else 0,⟨k,Z,by simp only [Nat.lt_irrefl,if_false,if_true];exact U⟩,?_⟩;have V:∀i,i<R->sumQ n (fun j=>castM M i j*(if j<k then -(M j k:Rat) else if j=k then (D:Rat) else 0))=0:=by
  intro i F
  by_cases G:i<k
  ·rw [sumQ_two n i k _ (by omega) (by omega) (by omega) fun j Y H I=>by
    by_cases e:j<k
    ·show (M i j:Rat)*_=0
     rw [h.diag i F j e,if_neg (fun h=>H h.symm)];simp
    ·rw [if_neg e,if_neg I];grind]
   rw [if_pos G,if_neg (Nat.lt_irrefl k),if_pos rfl]
   show (M i i:Rat)*_+(M i k:Rat)*_=0
   rw [h.diag i F i G,if_pos rfl];grind
  ·refine qcC _ _ fun j Y=>?_
   by_cases e:j<k
   ·show (M i j:Rat)*_=0
    rw [h.diag i F j e,if_neg (by omega)];simp
   ·by_cases J:j=k
    ·show (M i j:Rat)*_=0
     rw [J,O i (by omega) F];simp
    ·rw [if_neg e,if_neg J];grind
 intro i F;have E:=(h.span.2 i F).kill V;have e:sumQ n (fun j=>castM A i j*(if j<k then -(M j k:Rat) else if j=k then (D:Rat) else 0))=sumQ R (fun j=>castM A i j*(if j<k then -(M j k:Rat) else if j=k then (D:Rat) else 0)):=by
  obtain⟨m,rfl⟩:∃m,n=R+m:=⟨n-R,by omega⟩;rw [qfy,qcC m _ fun j _=>by rw [if_neg (by omega),if_neg (by omega)];grind]
  grind
 rw [e] at E;exact E
theorem qfC {R:Nat} {z:Int} {M A:Nat->Nat->Int} (h:ElimSt R (R+1) R z M A):qcv R (castM A) (fun i=>castM A i R) (fun i=>(M i R:Rat) / z)/\¬Sing R (castM A):=by
 have O:(z:Rat)≠0:=by exact_mod_cast h.nz
 have H:∀(x:Nat->Rat) (a:Rat) i,i<R->sumQ (R+1) (fun j=>castM M i j*(if j<R then x j else a))=z*x i+M i R*a:=by
  intro x a i E;rw [qgq,qdx R i _ E fun j F G=>by show (M i j:Rat)*_=0;rw [h.diag i E j F,if_neg (fun h=>G h.symm)];simp]
  show (M i i:Rat)*x i+(M i R:Rat)*a=_
  rw [h.diag i E i E,if_pos rfl]
 refine⟨fun i E=>?_,?_⟩
 ·have:=(h.span.2 i E).kill (y:=fun j=>if j<R then (M j R:Rat) / z else -1) fun i E=>by rw [H _ _ i E];grind
  rw [qgq] at this
  show sumQ R _=castM A i R
  grind
 ·rintro ⟨y,⟨j,F,J⟩,I⟩;have:=(h.span.1 j F).kill (y:=fun j=>if j<R then y j else 0) fun i E=>by rw [qgq,I i E];grind
  rw [H _ _ j F] at this;apply J;have:(z:Rat)*y j=0:=by grind
  rcases Rat.mul_eq_zero.1 this with h | h
  ·exact absurd h O
  ·exact h
theorem qgr:∀{n:Nat} {f:Nat->Rat},(∀i,i<n->0<=f i)->0<=sumQ n f
 | 0,_,_=>by show (0:Rat)<=0;exact Rat.le_refl
 | n+1,f,h=>by
  have E:=qgr (n:=n) (f:=f) fun i G=>h i (by omega)
  have F:=h n (by omega)
  show 0<=sumQ n f+f n
  grind
theorem qd3:∀{n:Nat} {f:Nat->Rat},(∀i,i<n->0<=f i)->sumQ n f=0->∀i,i<n->f i=0
 | 0,_,_,_,i,E=>absurd E (by omega)
 | n+1,f,h,F,i,E=>by
  have G:=qgr (n:=n) (f:=f) fun i E=>h i (by omega)
  have H:=h n (by omega);have I:sumQ n f+f n=0:=F
  by_cases e:i=n
  ·rw [e];grind
  ·exact qd3 (n:=n) (f:=f) (fun i E=>h i (by omega)) (by grind) i (by omega)
theorem sumQ_sub (n:Nat) (f g:Nat->Rat):sumQ n (fun i=>f i-g i)=sumQ n f-sumQ n g:=by
 have h:=qc7 n f fun i=>(-1)*g i
 rw [qb3] at h;rw [show sumQ n (fun i=>f i-g i)=sumQ n (fun i=>f i+(-1)*g i) from qbS fun i _=>by grind,h];grind
def resR (n:Nat) (A:Nat->Nat->Rat) (b z:Nat->Rat) (i:Nat):Rat:=sumQ n (fun j=>A i j*z j)-b i
def msR (R n:Nat) (A:Nat->Nat->Rat) (b w z:Nat->Rat):Rat:=sumQ R fun i=>w i*(resR n A b z i*resR n A b z i)
def Ord {α:Type} (lt:α->α->Prop) (l:List α):Prop:=l.Pairwise fun a b=>¬lt b a
theorem ord_last {α:Type} {lt:α->α->Prop} {A:List α} {y x:α} (G:∀a b c,lt a b->¬lt c b->lt a c) (h:Ord lt (A++[y])) (H:¬lt x y):∀a∈A++[y],¬lt x a:=fun a F E=>by
 rcases qaI.1 F with F | F
 ·have:=(List.pairwise_append.1 h).2.2 a F y (qao.2 rfl);exact H (G x a y E this)
 ·rw [qao.1 F] at E;exact H E
section
variable {α:Type} (lt:α->α->Prop) [DecidableRel lt]
def insR (x:α):List α->List α
 | []=>[x]
 | y :: ys=>if lt x y then x :: y :: ys else y :: insR x ys
def isort (l:List α):List α:=l.foldl (fun E x=>insR lt x E) []
theorem qeh (l:List α) (x:α):isort lt (l++[x])=insR lt x (isort lt l):=by unfold isort;rw [List.foldl_append];rfl
variable {lt}
theorem qeX (x:α):∀l:List α,(insR lt x l).Perm (x :: l)
 | []=>List.Perm.refl _
 | y :: ys=>by
  unfold insR;split
  ·exact List.Perm.refl _
  ·exact ((qeX x ys).cons y).trans (List.Perm.swap x y ys)
theorem qdi (l:List α):(isort lt l).Perm l:=by
 have F:∀(l E:List α),(l.foldl (fun E x=>insR lt x E) E).Perm (l++E):=by
  intro l
  induction l with
  | nil=>exact fun E=>List.Perm.refl _
  | cons x l ih=>exact fun E=>(ih _).trans ((List.Perm.append_left l (qeX x E)).trans List.perm_middle)
 have:=F l []
 rwa [qbz] at this
theorem qfR (l:List α):(isort lt l).length=l.length:=(qdi l).length_eq
theorem qgL (x:α):∀(A B:List α),(∀a∈A,¬lt x a)->(∀b∈B,lt x b)->insR lt x (A++B)=A++x :: B
 | [],[],_,_=>rfl
 | [],b :: B,_,hB=>by show insR lt x (b :: B)=_;unfold insR;rw [if_pos (hB b (qbe ..))];rfl
 | a :: A,B,E,hB=>by
  show insR lt x (a :: (A++B))=_
  unfold insR;rw [if_neg (E a (qbe ..)),qgL x A B (fun c F=>E c (qbr _ F)) hB];rfl
theorem qjx (H:∀a b c,lt a b->¬lt c b->lt a c) (F:∀a b,lt a b->¬lt b a) (x:α):∀{l:List α},Ord lt l->Ord lt (insR lt x l)
 | [],_=>List.pairwise_singleton _ _
 | y :: ys,h=>by
  obtain⟨I,J⟩:=List.pairwise_cons.1 h;unfold insR;split
  ·rename_i E;refine List.pairwise_cons.2 ⟨fun b G=>?_,h⟩;rcases qaD.1 G with rfl | G
   ·exact F _ _ E
   ·exact F _ _ (H x y b E (I b G))
  ·rename_i E;refine List.pairwise_cons.2 ⟨fun b G=>?_,qjx H F x J⟩;rcases qaD.1 ((qeX x ys).mem_iff.1 G) with rfl | G
   ·exact E
   ·exact I b G
theorem qhY (G:∀a b c,lt a b->¬lt c b->lt a c) (F:∀a b,lt a b->¬lt b a) (l:List α):Ord lt (isort lt l):=by
 have H:∀(l E:List α),Ord lt E->Ord lt (l.foldl (fun E x=>insR lt x E) E):=by
  intro l
  induction l with
  | nil=>exact fun E h=>h
  | cons x l ih=>exact fun E h=>ih _ (qjx G F x h)
 exact H l [] List.Pairwise.nil
end
def Stab (E:Nat->Rat) (l:List Nat):Prop:=l.Pairwise fun a b=>E a<E b\/(E a=E b/\a<b)
theorem qhU (E:Nat->Rat) (x:Nat):∀{l:List Nat},(∀a∈l,a<x)->Stab E l->Stab E (insR (fun a b=>E a<E b) x l)
 | [],_,_=>List.pairwise_singleton _ _
 | y :: ys,I,h=>by
  obtain⟨H,J⟩:=List.pairwise_cons.1 h;unfold insR;split
  ·rename_i G;refine List.pairwise_cons.2 ⟨fun b F=>?_,h⟩;rcases qaD.1 F with rfl | F
   ·exact .inl G
   ·rcases H b F with e | ⟨e,_⟩
    ·exact .inl (by grind)
    ·exact .inl (by grind)
  ·rename_i G;refine List.pairwise_cons.2 ⟨fun b F=>?_,qhU E x (fun a O=>I a (qbr _ O)) J⟩;rcases qaD.1 ((qeX x ys).mem_iff.1 F) with rfl | F
   ·have:=I y (qbe ..)
    by_cases e:E y=E b
    ·exact .inr ⟨e,this⟩
    ·exact .inl (by grind)
   ·exact H b F
theorem qfg (E:Nat->Rat):∀n,Stab E (isort (fun a b=>E a<E b) (List.range n))
 | 0=>List.Pairwise.nil
 | n+1=>by
  rw [List.range_succ,qeh];refine qhU E n (fun a F=>?_) (qfg E n);exact qar.1 ((qdi _).mem_iff.1 F)
section
variable {lt:Nat->Nat->Prop} [DecidableRel lt]
def InsSt (lt:Nat->Nat->Prop) [DecidableRel lt] (l d:List Nat) (i:Nat):Prop:=d=isort lt (l.take i)++l.drop i
def InsIn (lt:Nat->Nat->Prop) [DecidableRel lt] (l d:List Nat) (i j x:Nat):Prop:=∃A B:List Nat,d=A++x :: (B++l.drop (i+1))/\A.length=j/\A++B=isort lt (l.take i)/\(∀b∈B,lt x b)/\l[i]? = some x
theorem InsSt.start:∀l:List Nat,InsSt lt l l 1
 | []=>rfl
 | _ :: _=>rfl
theorem InsSt.done {l d:List Nat} {i:Nat} (h:InsSt lt l d i) (E:l.length<=i):d=isort lt l:=by
 rw [h,qal E,List.drop_eq_nil_of_le E,qbz]
theorem InsSt.inn {l d:List Nat} {i:Nat} (h:InsSt lt l d i) (E:i<l.length):∃x,InsIn lt l d i i x:=by
 refine⟨l[i],isort lt (l.take i),[],?_,by rw [qfR,qat];omega,qbz _,fun b F=>absurd F (by simp),qad E⟩;rw [h,qbl,<-qbq E]
theorem InsIn.cur {l d:List Nat} {i j x:Nat} (h:InsIn lt l d i j x):d[j]? = some x/\j<d.length/\x∈l:=by
 obtain⟨A,B,rfl,rfl,_,_,E⟩:=h;exact⟨by rw [qas qN,qaK];rfl,by rw [qae,qbC];omega,List.mem_of_getElem? E⟩
theorem InsIn.stop {l d:List Nat} {i j x:Nat} (h:InsIn lt l d i j x) (F:∀a∈d.take j,¬lt x a):InsSt lt l d (i+1):=by
 obtain⟨A,B,rfl,rfl,E,H,G⟩:=h;rw [qbK] at F;have I:=(List.getElem?_eq_some_iff.1 G).1;unfold InsSt;rw [List.take_add_one,G]
 show _=isort lt (l.take i++[x])++_
 rw [qeh,<-E,qgL x A B F H,qaA];rfl
theorem InsIn.zero {l d:List Nat} {i x:Nat} (h:InsIn lt l d i 0 x):InsSt lt l d (i+1):=h.stop fun a E=>absurd E (by simp)
theorem InsIn.prev {l d:List Nat} {i j x:Nat} (I:∀a b c,lt a b->¬lt c b->lt a c) (J:∀a b,lt a b->¬lt b a) (h:InsIn lt l d i (j+1) x) :
  ∃y,d[j]? = some y/\y∈l/\(lt x y->InsIn lt l ((d.set (j+1) y).set j x) i j x)/\(¬lt x y->InsSt lt l d (i+1)):=by
 have V:=h;obtain⟨A,B,rfl,E,G,Y,hx⟩:=h;have hne:A≠[]:=fun e=>by rw [e] at E;cases E
 obtain⟨F,y,rfl⟩:∃F y,A=F++[y]:=⟨_,_,(List.dropLast_concat_getLast hne).symm⟩;have Z:F.length=j:=by rw [qae] at E;exact Nat.succ.inj E
 subst Z;refine⟨y,?_,?_,fun H=>?_,fun H=>V.stop fun a U=>?_⟩
 ·rw [qaA,qas qN,qaK];rfl
 ·have:y∈isort lt (l.take i):=by rw [<-G];simp
  exact qbd ((qdi _).mem_iff.1 this)
 ·refine⟨F,y :: B,?_,rfl,by rw [<-G];simp,fun b O=>?_,hx⟩
  ·rw [qaA,qa1 _ _ (by omega),qa1 _ _ (by omega),show F.length+1-F.length=1 by omega,qaK];rfl
  ·rcases qaD.1 O with rfl | O
   ·exact H
   ·exact Y b O
 ·rw [<-E,qbK] at U;have ho:Ord lt (F++[y]):=by
   have:=qhY I J (l.take i);rw [<-G] at this;exact (List.pairwise_append.1 this).1
  exact ord_last I ho H a U
end
theorem qgK {lt E:Nat->Nat->Prop} [DecidableRel lt] [DecidableRel E] (x:Nat):∀{l:List Nat},(∀y∈l,lt x y↔E x y)->insR lt x l=insR E x l
 | [],_=>rfl
 | y :: ys,h=>by
  unfold insR;rw [qgK x (l:=ys) fun z G=>h z (qbr _ G)]
  by_cases e:lt x y
  ·rw [if_pos e,if_pos ((h y (qbe ..)).1 e)]
  ·rw [if_neg e,if_neg fun F=>e ((h y (qbe ..)).2 F)]
theorem qfQ {lt E:Nat->Nat->Prop} [DecidableRel lt] [DecidableRel E] {l:List Nat} (h:∀a∈l,∀b∈l,lt a b↔E a b):isort lt l=isort E l:=by
 have F:∀i,i<=l.length->isort lt (l.take i)=isort E (l.take i):=by
  intro i
  induction i with
  | zero=>intro _;rfl
  | succ i ih =>
   intro H;rw [List.take_add_one,qad (show i<l.length by omega)]
   show isort lt (l.take i++[l[i]])=isort E (l.take i++[l[i]])
   rw [qeh,qeh,ih (by omega)];refine qgK _ fun y G=>h _ (qbB _) _ (qbd ((qdi _).mem_iff.1 G))
 have:=F l.length qN
 rwa [qba] at this
open Go.Lib
def body (s:List UInt8):List UInt8:=trimPrefix s [45]
def signd (s:List UInt8):Bool:=hasPrefix s [45]
theorem qhe (s:List UInt8):body (45 :: s)=s/\signd (45 :: s)=true:=⟨rfl,rfl⟩
theorem qhf {s:List UInt8} (h:s.head?≠some 45):body s=s/\signd s=false:=by
 cases s with
 | nil=>exact⟨rfl,rfl⟩
 | cons c t =>
  have F:c≠45:=fun e=>h (by rw [e];rfl)
  have E:hasPrefix (c :: t) [45]=false:=by
   show (45 == c && _)=false
   rw [beq_eq_false_iff_ne.2 (Ne.symm F)];rfl
  refine⟨?_,E⟩
  show trimPrefix (c :: t) [45]=c :: t
  unfold trimPrefix;rw [E];rfl
structure Valid (s:List UInt8):Prop where
 nums:Nums (body s)
 pos:0<(body s).length
 le:(body s).length<=600
 lead:(body s).head? = some 48->(body s).length=1/\signd s=false
def ival (s:List UInt8):Int:=if signd s=true then -(dval (body s):Int) else dval (body s)
theorem Valid.plainly {s:List UInt8} (h:Valid s):qiE (body s):=⟨fun e=>by have:=h.pos;rw [e] at this;exact absurd this (by simp),h.nums,fun e=>(h.lead e).1⟩
theorem Valid.natAbs {s:List UInt8} (_h:Valid s):(ival s).natAbs=dval (body s):=by
 unfold ival;split
 ·rw [qby,qaq]
 ·rw [qaq]
theorem Valid.neg {s:List UInt8} (h:Valid s):decide (ival s<0)=signd s:=by
 unfold ival;cases hs:signd s with
 | false=>rw [if_neg (by simp)];exact qU (by omega)
 | true =>
  rw [if_pos rfl];refine qV ?_;rcases qaX (dval (body s)) with h0 | h0
  ·have E:=qg1 _ h.plainly;rw [h0,qbW (by decide)] at E;have:=(h.lead (by rw [E];rfl)).2;rw [hs] at this;cases this
  ·omega
theorem qj5 {v n k:Nat} (h:v<10 ^ n) (E:n<=9*k):Fit v k:=by
 unfold Fit;rw [pow9];exact qai h (qa6 (by decide) E)
theorem Valid.fit {s:List UInt8} (h:Valid s):Fit (ival s).natAbs 67:=by
 rw [h.natAbs];exact qj5 (qkZ _ _ rfl h.nums) (by have:=h.le;omega)
def itxt (z:Int):List UInt8:=if z<0 then 45 :: decDigits z.natAbs else decDigits z.natAbs
theorem qfz (u:Nat):(decDigits u).head?≠some 45:=by
 cases h:decDigits u with
 | nil=>exact absurd h (qd5 u)
 | cons c t =>
  intro e;have F:c=45:=qag e;have:=qev u c (by rw [h];exact qbe);rw [F] at this;have E:(45:UInt8).toNat=45:=rfl;omega
theorem qeK (z:Int):body (itxt z)=decDigits z.natAbs/\signd (itxt z)=decide (z<0):=by
 unfold itxt
 by_cases h:z<0
 ·rw [if_pos h,qV h];exact qhe _
 ·rw [if_neg h,qU h];exact qhf (qfz _)
theorem qdp (z:Int):ival (itxt z)=z:=by
 unfold ival;rw [(qeK z).1,(qeK z).2,qgx]
 by_cases h:z<0
 ·rw [if_pos (qV h)];omega
 ·rw [if_neg (by rw [qU h];simp)];omega
theorem qfn {z:Int} (h:(decDigits z.natAbs).length<=600):Valid (itxt z):=by
 obtain⟨E,G⟩:=qeK z;refine⟨by rw [E];exact qev _,by rw [E];exact List.length_pos_iff.2 (qd5 _),by rw [E];exact h,fun e=>?_⟩;rw [E] at e;have F:=qgw _ e;rw [E,G,F,qbW (by decide)];exact⟨rfl,qU (by omega)⟩
theorem Valid.eq {s:List UInt8} (h:Valid s):s=itxt (ival s):=by
 have G:=qg1 _ h.plainly;have H:=h.natAbs;have E:=h.neg;unfold itxt;rw [H,<-G]
 by_cases F:s.head? = some 45
 ·obtain⟨t,rfl⟩:∃t,s=45 :: t:=by
   cases s with
   | nil=>cases F
   | cons c t=>exact⟨t,by rw [qag F]⟩
  rw [(qhe t).2] at E;rw [if_pos (of_decide_eq_true E),(qhe t).1]
 ·rw [(qhf F).2] at E;rw [if_neg (of_decide_eq_false E),(qhf F).1]
theorem isM_ne {W:World} {F:Option Addr} {b off c n g:Nat} {L:List Nat} {cs:Array Value} {t:TypeId} {G:Nat×Nat} (h:IsM W F b off c n L) (hg:W.heap[g]? = some (.cells cs t G)) (hne:∀x∈cs.toList,∀d,x≠.int .u32 d) (H:0<n):b≠g:=by
 rintro rfl;have E:=h.cell 0 H;unfold World.cell? at E;simp only [hg] at E;have I:cs[off+0]? = some (.int .u32 ((dg L 0:Nat):Int)):=by
  simpa using E
 exact hne _ (by rw [Array.mem_toList_iff];exact Array.mem_of_getElem? I) _ rfl
theorem qb1 (W:World) (g:Nat) (cs:Array Value):W.grownBy (W.setRow g cs) (some g):=by
 refine⟨rfl,rfl,rfl,by simp [World.setRow],fun k F E=>?_⟩;exact setRow_other _ _ _ _ (fun e=>E (by rw [e]))
theorem qch {W W':World} {v:Value} {x g:Nat} {cs:Array Value} {t:TypeId} {F:Nat×Nat} (h:MagAt W v x) (I:W.grownBy W' (some g)) (hg:W.heap[g]? = some (.cells cs t F)) (hne:∀x∈cs.toList,∀d,x≠.int .u32 d):MagAt W' v x:=by
 obtain⟨ao,b,off,c,n,L,rfl,E,H⟩:=h;exact⟨ao,b,off,c,n,L,rfl,⟨E.len,E.cap,qgM I E.cells (fun G=>isM_ne E hg hne (by rw [<-E.len];exact G)),E.dig,E.nrm⟩,H⟩
theorem qdk {W:World} {v:Value} {x g:Nat} {cs cs':Array Value} {t:TypeId} {E:Nat×Nat} (h:MagAt W v x) (hg:W.heap[g]? = some (.cells cs t E)) (hne:∀x∈cs.toList,∀d,x≠.int .u32 d):MagAt (W.setRow g cs') v x:=qch h (qb1 W g cs') hg hne
theorem qeG:∀x∈(#[.slice none 0 0,.bool false]:Array Value).toList,∀d,x≠.int .u32 d:=by
 intro x E d;rcases qaD.1 E with rfl | E
 ·intro h;cases h
 ·rw [qao.1 E];intro h;cases h
def IntAt (W:World) (v:Value) (z:Int):Prop:=∃m,v=.agg #[m,.bool (decide (z<0))]/\MagAt W m z.natAbs
theorem IntAt.below {W W':World} {v:Value} {z:Int} (h:IntAt W v z) (G:Below W.heap.size W W'):IntAt W' v z:=by
 obtain⟨m,E,F⟩:=h;exact⟨m,E,F.below G⟩
theorem qky {W:World} {m:Value} {x:Nat} {neg:Bool} (h:MagAt W m x):IntAt W (.agg #[m,.bool (neg && !decide (x=0))]) (if neg=true then -(x:Int) else x):=by
 have F:(neg && !decide (x=0))=decide ((if neg=true then -(x:Int) else x)<0):=by
  cases neg with
  | false=>rw [Bool.false_and,if_neg (by simp)];exact (qU (by omega)).symm
  | true =>
   rw [if_pos rfl,Bool.true_and]
   by_cases E:x=0
   ·rw [qV E];exact (qU (by omega)).symm
   ·rw [qU E];exact (qV (by omega)).symm
 rw [F];refine⟨m,rfl,?_⟩
 ·cases neg with
  | false=>simpa using h
  | true=>rw [if_pos rfl,qby,qaq];exact h
