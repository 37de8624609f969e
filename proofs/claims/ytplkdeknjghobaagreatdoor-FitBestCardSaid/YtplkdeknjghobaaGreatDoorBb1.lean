import Derived.KernelRfl
import Derived.Test.YtplkdeknjghobaaGreatDoorBb0
set_option maxRecDepth 100000
set_option maxHeartbeats 0
namespace Go.Proofs.YtplkdeknjghobaaGreatDoor
def sumN:Nat->(Nat->Int)->Int
 | 0,_=>0
 | n+1,f=>sumN n f+f n
theorem qcl {n:Nat} {f g:Nat->Int} (h:∀i,i<n->f i=g i):sumN n f=sumN n g:=by
 induction n with
 | zero=>rfl
 | succ n ih=>simp only [sumN];rw [ih fun i F=>h i (by omega),h n (by omega)]
theorem qib (n:Nat) (f g:Nat->Int):sumN n (fun i=>f i+g i)=sumN n f+sumN n g:=by
 induction n with
 | zero=>rfl
 | succ n ih=>simp only [sumN,ih];omega
theorem qfG (n:Nat) (c:Int) (f:Nat->Int):sumN n (fun i=>c*f i)=c*sumN n f:=by
 induction n with
 | zero=>simp [sumN]
 | succ n ih=>simp only [sumN,ih,Int.mul_add]
theorem qha (n:Nat) (f:Nat->Int) (h:∀i,i<n->f i=0):sumN n f=0:=by
 induction n with
 | zero=>rfl
 | succ n ih=>simp only [sumN];rw [ih fun i F=>h i (by omega),h n (by omega)];rfl
theorem qkN (n:Nat) (f:Nat->Int):sumN n (fun i=>- f i) = - sumN n f:=by
 induction n with
 | zero=>rfl
 | succ n ih=>simp only [sumN,ih];omega
theorem qjh (n m:Nat) (f:Nat->Nat->Int):sumN n (fun i=>sumN m (fun j=>f i j))=sumN m (fun j=>sumN n (fun i=>f i j)):=by
 induction n with
 | zero =>
  simp only [sumN];exact (qha m _ fun _ _=>rfl).symm
 | succ n ih=>simp only [sumN,ih];rw [<-qib]
theorem qnK (n:Nat) (f:Nat->Nat->Int) (h:∀i j,i<n->j<n->f i j = - f j i):sumN n (fun i=>sumN n (fun j=>f i j))=0:=by
 have I:sumN n (fun i=>sumN n (fun j=>f i j))=sumN n (fun i=>sumN n (fun j=>- f j i)):=qcl fun i F=>qcl fun j H=>h i j F H
 have J:sumN n (fun i=>sumN n (fun j=>- f j i)) = - sumN n (fun i=>sumN n (fun j=>f j i)):=by
  rw [<-qkN];exact qcl fun i _=>qkN n _
 have O:=qjh n n f;omega
def skip (k c:Nat):Nat:=if c<k then c else c+1
theorem qd3 {k c n:Nat} (F:c<n):skip k c<n+1:=by unfold skip;split <;> omega
theorem skip_ne (k c:Nat):skip k c≠k:=by unfold skip;split <;> omega
theorem qnL (n k:Nat) (O:k<n+1) (f:Nat->Int):sumN n (fun c=>f (skip k c))+f k=sumN (n+1) f:=by
 induction n with
 | zero =>
  obtain rfl:k=0:=by omega
  simp [sumN]
 | succ n ih =>
  by_cases H:k=n+1
  ·subst H;simp only [sumN];have I:sumN n (fun c=>f (skip (n+1) c))=sumN n f:=qcl fun i J=>by unfold skip;rw [if_pos (by omega)]
   have F:f (skip (n+1) n)=f n:=by unfold skip;rw [if_pos (by omega)]
   rw [I,F]
  ·have:=ih (by omega);simp only [sumN] at this ⊢;have F:f (skip k n)=f (n+1):=by unfold skip;rw [if_neg (by omega)]
   rw [F];omega
def sg (j:Nat):Int:=if j % 2=0 then 1 else -1
def det:Nat->(Nat->Nat->Int)->Int
 | 0,_=>1
 | n+1,M=>sumN (n+1) fun j=>sg j*M 0 j*det n fun r c=>M (r+1) (skip j c)
theorem qey:∀(n:Nat) (M N:Nat->Nat->Int),(∀r c,r<n->c<n->M r c=N r c)->det n M=det n N
 | 0,_,_,_=>rfl
 | n+1,M,N,h=>by
  simp only [det];refine qcl fun j H=>?_
  rw [h 0 j (by omega) H,qey n _ _ fun r c I F=>h (r+1) (skip j c) (by omega) (qd3 F)]
theorem qej:∀(n:Nat) (M N K:Nat->Nat->Int) (k:Nat),k<n->(∀c,c<n->K k c=M k c+N k c)->(∀r c,r<n->c<n->r≠k->K r c=M r c/\K r c=N r c)->det n K=det n M+det n N
 | 0,_,_,_,_,h,_,_=>absurd h (by omega)
 | n+1,M,N,K,0,_,I,ho=>by
  simp only [det];rw [<-qib];refine qcl fun j H=>?_
  have U:det n (fun r c=>K (r+1) (skip j c))=det n (fun r c=>M (r+1) (skip j c)):=qey n _ _ fun r c O F=>(ho (r+1) (skip j c) (by omega) (qd3 F) (by omega)).1
  have V:det n (fun r c=>K (r+1) (skip j c))=det n (fun r c=>N (r+1) (skip j c)):=qey n _ _ fun r c O F=>(ho (r+1) (skip j c) (by omega) (qd3 F) (by omega)).2
  rw [<-V,<-U,I j H,Int.mul_add,Int.add_mul]
 | n+1,M,N,K,k+1,h,I,ho=>by
  simp only [det];rw [<-qib];refine qcl fun j H=>?_
  have e:=qej n (fun r c=>M (r+1) (skip j c)) (fun r c=>N (r+1) (skip j c)) (fun r c=>K (r+1) (skip j c)) k (by omega) (fun c F=>I (skip j c) (qd3 F)) (fun r c O F Y=>ho (r+1) (skip j c) (by omega) (qd3 F) (by omega));have J:=ho 0 j (by omega) H (by omega);rw [e,Int.mul_add];rw [<-J.1];have:K 0 j=N 0 j:=J.2;rw [this]
theorem qek:∀(n:Nat) (M K:Nat->Nat->Int) (k:Nat) (a:Int),k<n->(∀c,c<n->K k c=a*M k c)->(∀r c,r<n->c<n->r≠k->K r c=M r c)->det n K=a*det n M
 | 0,_,_,_,_,h,_,_=>absurd h (by omega)
 | n+1,M,K,0,a,_,I,ho=>by
  simp only [det];rw [<-qfG];refine qcl fun j H=>?_
  rw [qey n _ _ fun r c J F=>ho (r+1) (skip j c) (by omega) (qd3 F) (by omega),I j H];rw [<-qbC,<-qbC,qbi (sg j) a,qbC a (sg j)]
 | n+1,M,K,k+1,a,h,I,ho=>by
  simp only [det];rw [<-qfG];refine qcl fun j H=>?_
  have e:=qek n (fun r c=>M (r+1) (skip j c)) (fun r c=>K (r+1) (skip j c)) k a (by omega) (fun c F=>I (skip j c) (qd3 F)) (fun r c J F O=>ho (r+1) (skip j c) (by omega) (qd3 F) (by omega));rw [e,ho 0 j (by omega) H (by omega),<-qbC,<-qbC,qbi (sg j*M 0 j) a,qbC]
def cof (j k:Nat):Nat:=if k<j then k else k-1
theorem cof_skip (j c:Nat):cof j (skip j c)=c:=by unfold cof skip;(repeat' split) <;> omega
theorem qlB (j k x:Nat) (h:j≠k):skip j (skip (cof j k) x)=skip k (skip (cof k j) x):=by
 unfold cof skip
 by_cases H:k<j
 ·have F:¬j<k:=by omega
  simp only [H,F,if_true,if_false]
  (repeat' split) <;> omega
 ·have F:j<k:=by omega
  simp only [H,F,if_true,if_false]
  (repeat' split) <;> omega
theorem sg_cof (j k:Nat) (h:j≠k):sg j*sg (cof j k) = - (sg k*sg (cof k j)):=by
 unfold sg cof
 by_cases H:k<j
 ·have F:¬j<k:=by omega
  simp only [H,F,if_true,if_false]
  (repeat' split) <;> first | omega | (exfalso;omega)
 ·have F:j<k:=by omega
  simp only [H,F,if_true,if_false]
  (repeat' split) <;> first | omega | (exfalso;omega)
def two (n:Nat) (M:Nat->Nat->Int) (j k:Nat):Int:=if j=k then 0 else sg j*sg (cof j k)*(M 0 j*M 1 k)*det n fun r x=>M (r+2) (skip j (skip (cof j k) x))
theorem det_two (n:Nat) (M:Nat->Nat->Int):det (n+2) M=sumN (n+2) fun j=>sumN (n+2) fun k=>two n M j k:=by
 show sumN (n+2) (fun j=>sg j*M 0 j*det (n+1) fun r c=>M (r+1) (skip j c))=_
 refine qcl fun j H=>?_
 rw [<-qnL (n+1) j H];have F:two n M j j=0:=by unfold two;rw [if_pos rfl]
 rw [F,Int.add_zero]
 show sg j*M 0 j*sumN (n+1) (fun c=>sg c*M 1 (skip j c)*det n fun r x=>M (r+2) (skip j (skip c x)))=_
 rw [<-qfG];refine qcl fun c I=>?_
 unfold two;rw [if_neg (Ne.symm (skip_ne j c)),cof_skip];simp only [qbC,qbi,Int.mul_left_comm]
theorem qkU (n:Nat) (M:Nat->Nat->Int) (h:∀c,c<n+2->M 0 c=M 1 c):det (n+2) M=0:=by
 rw [det_two];refine qnK (n+2) _ fun j k H I=>?_
 unfold two
 by_cases F:j=k
 ·rw [if_pos F,if_pos F.symm];rfl
 ·rw [if_neg F,if_neg (Ne.symm F),sg_cof j k F];have e:(fun r x=>M (r+2) (skip j (skip (cof j k) x)))=fun r x=>M (r+2) (skip k (skip (cof k j) x)):=by
   funext r x;rw [qlB j k x F]
  rw [e,h j H,<-h k I,qbi (M 1 j) (M 0 k),qbz,qbz]
theorem qel:∀(n:Nat) (M:Nat->Nat->Int) (k:Nat),k+1<n->(∀c,c<n->M k c=M (k+1) c)->det n M=0
 | 0,_,_,h,_=>absurd h (by omega)
 | 1,_,_,h,_=>absurd h (by omega)
 | n+2,M,0,_,h=>qkU n M h
 | n+2,M,k+1,I,h=>by
  show sumN (n+2) (fun j=>sg j*M 0 j*det (n+1) fun r c=>M (r+1) (skip j c))=0
  refine qha _ _ fun j H=>?_
  rw [qel (n+1) (fun r c=>M (r+1) (skip j c)) k (by omega) fun c F=>h (skip j c) (qd3 F),qbJ]
def R2 (M:Nat->Nat->Int) (k:Nat) (x y:Nat->Int):Nat->Nat->Int:=fun r c=>if r=k then x c else if r=k+1 then y c else M r c
theorem R2_left (n:Nat) (M:Nat->Nat->Int) (k:Nat) (I:k+1<n) (x F y:Nat->Int):det n (R2 M k (fun c=>x c+F c) y)=det n (R2 M k x y)+det n (R2 M k F y) :=
 qej n _ _ _ k (by omega) (fun c _=>by simp [R2]) fun r c _ _ H=>by simp [R2,H]
theorem qka (n:Nat) (M:Nat->Nat->Int) (k:Nat) (I:k+1<n) (x y F:Nat->Int):det n (R2 M k x (fun c=>y c+F c))=det n (R2 M k x y)+det n (R2 M k x F) :=
 qej n _ _ _ (k+1) (by omega) (fun c _=>by simp [R2]) fun r c _ _ H=>by simp [R2,H]
theorem qjr (n:Nat) (M:Nat->Nat->Int) (k:Nat) (F:k+1<n) (x:Nat->Int):det n (R2 M k x x)=0 :=
 qel n _ k F fun c _=>by simp [R2]
theorem R2_swap (n:Nat) (M:Nat->Nat->Int) (k:Nat) (F:k+1<n) (x y:Nat->Int):det n (R2 M k x y) = - det n (R2 M k y x):=by
 have h:=qjr n M k F fun c=>x c+y c
 rw [R2_left n M k F,qka n M k F,qka n M k F,qjr n M k F,qjr n M k F] at h;omega
theorem R2_self (M:Nat->Nat->Int) (k:Nat):R2 M k (M k) (M (k+1))=M:=by
 funext r c
 unfold R2;split
 ·rename_i h;rw [h]
 ·split
  ·rename_i h;rw [h]
  ·rfl
theorem qgg (n:Nat):∀(d:Nat) (M:Nat->Nat->Int) (i:Nat),i+d+1<n->(∀c,c<n->M i c=M (i+d+1) c)->det n M=0
 | 0,M,i,F,h=>qel n M i F h
 | d+1,M,i,F,h=>by
  have H:=R2_swap n M (i+d+1) (by omega) (M (i+d+1)) (M (i+d+1+1));rw [R2_self] at H;rw [H,qgg n d (R2 M (i+d+1) (M (i+d+1+1)) (M (i+d+1))) i (by omega) (fun c J=>by
   have:¬i=i+d+1:=by omega
   have I:¬i=i+d+1+1:=by omega
   simp only [R2,this,I,if_false,if_true];exact h c J)]
  rfl
theorem qjy (n:Nat) (M K:Nat->Nat->Int) (i s:Nat) (a:Int) (J:i<n) (hs:s<n) (I:i≠s) (Y:∀c,c<n->K i c=M i c+a*M s c) (Z:∀r c,r<n->c<n->r≠i->K r c=M r c):det n K=det n M:=by
 have O:=qej n M (fun r c=>if r=i then a*M s c else M r c) K i J (fun c H=>by simp [Y c H]) fun r c hr H F=>by
  rw [Z r c hr H F];simp [F]
 have U:=qek n (fun r c=>if r=i then M s c else M r c) (fun r c=>if r=i then a*M s c else M r c) i a J (fun c _=>by simp) fun r c _ _ F=>by simp [F]
 have V:det n (fun r c=>if r=i then M s c else M r c)=0:=by
  rcases Nat.lt_or_gt_of_ne I with h | h
  ·obtain⟨d,rfl⟩:∃d,s=i+d+1:=⟨s-i-1,by omega⟩;refine qgg n d _ i (by omega) fun c _=>?_
   have:¬i+d+1=i:=by omega
   simp [this]
  ·obtain⟨d,rfl⟩:∃d,i=s+d+1:=⟨i-s-1,by omega⟩;refine qgg n d _ s (by omega) fun c _=>?_
   have:¬s=s+d+1:=by omega
   simp [this]
 rw [O,U,V,qbJ,Int.add_zero]
theorem qee (n:Nat) (f:Nat->Int):sumN (n+1) f=f 0+sumN n fun i=>f (i+1):=by
 induction n with
 | zero=>simp [sumN]
 | succ n ih =>
  have:sumN (n+1+1) f=sumN (n+1) f+f (n+1):=rfl;rw [this,ih];simp only [sumN];omega
theorem qnC (j:Nat):sg (j+1) = - sg j:=by
 unfold sg
 (repeat' split) <;> first | omega | (exfalso;omega)
theorem qdY (r:Nat):skip 0 r=r+1:=by unfold skip;rw [if_neg (by omega)]
theorem qe4 (j:Nat):skip (j+1) 0=0:=by unfold skip;rw [if_pos (by omega)]
theorem qe3 (j c:Nat):skip (j+1) (c+1)=skip j c+1:=by unfold skip;(repeat' split) <;> omega
theorem qjA:∀(n:Nat) (M:Nat->Nat->Int),det (n+1) M=sumN (n+1) fun i=>sg i*M i 0*det n fun r c=>M (skip i r) (c+1)
 | 0,M=>by
  show sumN 1 _=sumN 1 _
  exact qcl fun i O=>by
   obtain rfl:i=0:=by omega
   rfl
 | n+1,M=>by
  show sumN (n+1+1) (fun j=>sg j*M 0 j*det (n+1) fun r c=>M (r+1) (skip j c))=_
  rw [qee,qee (n+1)];have F:∀a b c d:Int,a=c->b=d->a+b=c+d:=fun a b c d h k=>by rw [h,k]
  refine F _ _ _ _ ?_ ?_
  ·have H:(fun r c=>M (r+1) (skip 0 c))=fun r c=>M (skip 0 r) (c+1):=by
    funext r c
    rw [qdY,qdY]
   rw [H]
  ·have I:∀j,sg (j+1)*M 0 (j+1)*det (n+1) (fun r c=>M (r+1) (skip (j+1) c))=sumN (n+1) fun i=>- (sg j*sg i*(M 0 (j+1)*M (i+1) 0)*det n fun r c=>M (skip i r+1) (skip j c+1)):=by
    intro j;rw [qjA n,<-qfG];refine qcl fun i _=>?_
    simp only [qe4,qe3,qnC];simp only [qbz,Int.mul_neg,qbC,Int.mul_left_comm]
   have J:∀i,sg (i+1)*M (i+1) 0*det (n+1) (fun r c=>M (skip (i+1) r) (c+1))=sumN (n+1) fun j=>- (sg j*sg i*(M 0 (j+1)*M (i+1) 0)*det n fun r c=>M (skip i r+1) (skip j c+1)):=by
    intro i
    show _*sumN (n+1) (fun j=>sg j*M (skip (i+1) 0) (j+1)*det n fun r c=>M (skip (i+1) (r+1)) (skip j c+1))=_
    rw [<-qfG];refine qcl fun j _=>?_
    simp only [qe4,qe3,qnC];simp only [qbz,Int.mul_neg,qbC,Int.mul_left_comm,qbi]
   rw [qcl fun j _=>I j,qcl fun i _=>J i,qjh]
theorem qkf:∀(n:Nat) (M:Nat->Nat->Int),det n (fun r c=>M c r)=det n M
 | 0,_=>rfl
 | n+1,M=>by
  rw [qjA n M]
  show sumN (n+1) (fun j=>sg j*M j 0*det n fun r c=>M (skip j c) (r+1))=_
  exact qcl fun j _=>by rw [qkf n fun r c=>M (skip j r) (c+1)]
theorem qhQ (n:Nat) (i:Nat) (U:i<2):∀(m:Nat) (M K:Nat->Nat->Int) (L:Nat->Int),m+2<=n->(∀c,c<n->K i c=M i c+sumN m fun s=>L s*M (s+2) c)->(∀r c,r<n->c<n->r≠i->K r c=M r c)->det n K=det n M
 | 0,M,K,L,V,J,ho=>qey n K M fun r c H F=>by
  by_cases h:r=i
  ·subst h;rw [J c F];simp [sumN]
  ·exact ho r c H F h
 | m+1,M,K,L,V,J,ho=>by
  have O:=qhQ n i U m M (fun r c=>if r=i then M i c+sumN m (fun s=>L s*M (s+2) c) else M r c) L (by omega) (fun c _=>by simp) fun r c _ _ H=>by simp [H]
  rw [<-O];refine qjy n _ K i (m+2) (L m) (by omega) (by omega) (by omega) (fun c F=>?_) fun r c H F I=>by rw [ho r c H F I];simp [I]
  have:¬m+2=i:=by omega
  rw [J c F];simp only [sumN,this,if_true,if_false];omega
def bord (k:Nat) (M:Nat->Nat->Int) (a c:Nat):Int:=det (k+1) fun r x=>M (if r=0 then a else r+1) (if x=0 then c else x+1)
def steps (k:Nat) (M:Nat->Nat->Int):Int:=det k fun r c=>M (r+2) (c+2)
def lam (k:Nat) (M:Nat->Nat->Int) (a s:Nat):Int:=sg (s+1)*det k fun r x=>M (if skip (s+1) r=0 then a else skip (s+1) r+1) (x+2)
theorem qir (k:Nat) (M:Nat->Nat->Int) (a c:Nat):bord k M a c=steps k M*M a c+sumN k fun s=>lam k M a s*M (s+2) c:=by
 unfold bord steps;rw [qjA,qee];have F:∀a b c d:Int,a=c->b=d->a+b=c+d:=fun a b c d h k=>by rw [h,k]
 refine F _ _ _ _ ?_ (qcl fun s I=>?_)
 ·have e:(fun r x=>M (if skip 0 r=0 then a else skip 0 r+1) (if x+1=0 then c else x+1+1))=fun r x=>M (r+2) (x+2):=by
   funext r x
   rw [qdY];simp
  rw [e];simp [sg,qbi]
 ·have H:¬s+1=0:=by omega
  have e:(fun r x=>M (if skip (s+1) r=0 then a else skip (s+1) r+1) (if x+1=0 then c else x+1+1))=fun r x=>M (if skip (s+1) r=0 then a else skip (s+1) r+1) (x+2):=by
   funext r x;simp
  rw [e];unfold lam;simp only [H,if_true,if_false,qbC,qbi]
theorem qis (k:Nat) (M:Nat->Nat->Int) (a c:Nat) (F:c<k):bord k M a (c+2)=0:=by
 unfold bord;rw [<-qkf];refine qgg (k+1) c _ 0 (by omega) fun r _=>?_
 have:¬0+c+1=0:=by omega
 simp only [this,if_true,if_false];rw [show 0+c+1+1=c+2 by omega]
theorem qfF (n:Nat) (f:Nat->Int) (h:∀i,i<n->f (i+1)=0):sumN (n+1) f=f 0:=by
 rw [qee,qha n _ h,Int.add_zero]
theorem sg0:sg 0=1:=rfl
theorem sg1:sg 1 = -1:=rfl
def cleared (k:Nat) (M:Nat->Nat->Int):Nat->Nat->Int:=fun r c=>if r=0 then bord k M 0 c else if r=1 then bord k M 1 c else M r c
theorem qjz (k:Nat) (M:Nat->Nat->Int):det (k+2) (cleared k M)=steps k M*(steps k M*det (k+2) M):=by
 have I:det (k+2) (fun r c=>if r=0 then steps k M*M 0 c else M r c)=steps k M*det (k+2) M :=
  qek (k+2) M _ 0 (steps k M) (by omega) (fun c _=>by simp) fun r c _ _ F=>by simp [F]
 have J:det (k+2) (fun r c=>if r=0 then bord k M 0 c else M r c)=det (k+2) (fun r c=>if r=0 then steps k M*M 0 c else M r c) :=
  qhQ (k+2) 0 (by omega) k _ _ (lam k M 0) qN (fun c _=>by
   show bord k M 0 c=_
   rw [qir];simp) fun r c _ _ F=>by simp [F]
 have O:det (k+2) (fun r c=>if r=1 then steps k M*M 1 c else if r=0 then bord k M 0 c else M r c)=steps k M*det (k+2) (fun r c=>if r=0 then bord k M 0 c else M r c) :=
  qek (k+2) _ _ 1 (steps k M) (by omega) (fun c _=>by simp) fun r c _ _ F=>by simp [F]
 have U:det (k+2) (cleared k M)=det (k+2) (fun r c=>if r=1 then steps k M*M 1 c else if r=0 then bord k M 0 c else M r c) :=
  qhQ (k+2) 1 (by omega) k _ _ (lam k M 1) qN (fun c _=>by
   show bord k M 1 c=_
   rw [qir];simp) fun r c _ _ F=>by
    by_cases H:r=0
    ·subst H;simp [cleared]
    ·simp [cleared,F,H]
 rw [U,O,J,I]
theorem qiv (k:Nat) (M:Nat->Nat->Int):det (k+2) (cleared k M)=(bord k M 0 0*bord k M 1 1-bord k M 0 1*bord k M 1 0)*steps k M:=by
 have z0:∀c,c<k->cleared k M 0 (c+2)=0:=fun c H=>qis k M 0 c H
 have J:∀c,c<k->cleared k M 1 (c+2)=0:=fun c H=>qis k M 1 c H
 have a:det (k+1) (fun r c=>cleared k M (r+1) (skip 0 c))=bord k M 1 1*steps k M:=by
  show sumN (k+1) (fun j=>sg j*cleared k M 1 (skip 0 j)*det k fun r c=>cleared k M (r+2) (skip 0 (skip j c)))=_
  rw [qfF k _ fun i F=>by
   simp only [qdY];rw [J i F,qbJ,Int.zero_mul]]
  have e:(fun r c=>cleared k M (r+2) (skip 0 (skip 0 c)))=fun r c=>M (r+2) (c+2):=by
   funext r c
   simp [qdY,cleared]
  rw [e,sg0,Int.one_mul]
  rfl
 have b:det (k+1) (fun r c=>cleared k M (r+1) (skip 1 c))=bord k M 1 0*steps k M:=by
  show sumN (k+1) (fun j=>sg j*cleared k M 1 (skip 1 j)*det k fun r c=>cleared k M (r+2) (skip 1 (skip j c)))=_
  have I:∀c,skip 1 (c+1)=c+2:=fun c=>by unfold skip;rw [if_neg (by omega)]
  rw [qfF k _ fun i F=>by
   rw [I,J i F,qbJ,Int.zero_mul]]
  have e:(fun r c=>cleared k M (r+2) (skip 1 (skip 0 c)))=fun r c=>M (r+2) (c+2):=by
   funext r c
   rw [qdY,I];simp [cleared]
  rw [e,sg0,Int.one_mul]
  rfl
 show sumN (k+1+1) (fun j=>sg j*cleared k M 0 j*det (k+1) fun r c=>cleared k M (r+1) (skip j c))=_
 rw [qee,qfF k _ fun i F=>by rw [z0 i F,qbJ,Int.zero_mul]];simp only [qaM];rw [a,b,sg0,sg1,Int.one_mul]
 show bord k M 0 0*(bord k M 1 1*steps k M) + -1*bord k M 0 1*(bord k M 1 0*steps k M)=_
 rw [Int.sub_mul,qbz,Int.one_mul,qbz,qbC,qbC];omega
theorem qnP (k:Nat) (M:Nat->Nat->Int) (F:steps k M≠0):bord k M 0 0*bord k M 1 1-bord k M 0 1*bord k M 1 0=steps k M*det (k+2) M:=by
 have h:=(qiv k M).symm.trans (qjz k M);rw [qbi _ (steps k M)] at h;exact Int.eq_of_mul_eq_mul_left F h
def sumQ:Nat->(Nat->Rat)->Rat
 | 0,_=>0
 | n+1,f=>sumQ n f+f n
theorem qbX:∀{n:Nat} {f g:Nat->Rat},(∀i,i<n->f i=g i)->sumQ n f=sumQ n g
 | 0,_,_,_=>rfl
 | n+1,f,g,h=>by
  show sumQ n f+f n=sumQ n g+g n
  rw [qbX fun i F=>h i (by omega),h n (by omega)]
theorem qcQ:∀(n:Nat) (f:Nat->Rat),(∀i,i<n->f i=0)->sumQ n f=0
 | 0,_,_=>rfl
 | n+1,f,h=>by
  show sumQ n f+f n=0
  rw [qcQ n f fun i F=>h i (by omega),h n (by omega)];grind
theorem qdH:∀(n:Nat) (f g:Nat->Rat),sumQ n (fun i=>f i+g i)=sumQ n f+sumQ n g
 | 0,_,_=>by simp [sumQ];try grind
 | n+1,f,g=>by
  show sumQ n (fun i=>f i+g i)+(f n+g n)=sumQ n f+f n+(sumQ n g+g n)
  rw [qdH n f g];grind
theorem qcb:∀(n:Nat) (a:Rat) (f:Nat->Rat),sumQ n (fun i=>a*f i)=a*sumQ n f
 | 0,a,_=>by simp [sumQ]
 | n+1,a,f=>by
  show sumQ n (fun i=>a*f i)+a*f n=a*(sumQ n f+f n)
  rw [qcb n a f];grind
theorem qdl:∀(n m:Nat) (f:Nat->Nat->Rat),sumQ n (fun i=>sumQ m fun j=>f i j)=sumQ m fun j=>sumQ n fun i=>f i j
 | 0,m,f=>(qcQ m _ fun _ _=>rfl).symm
 | n+1,m,f=>by
  show sumQ n (fun i=>sumQ m fun j=>f i j)+sumQ m (fun j=>f n j)=sumQ m fun j=>(sumQ n (fun i=>f i j)+f n j)
  rw [qdl n m f,qdH]
theorem qc7:∀(n k:Nat) (f:Nat->Rat),k<n->(∀i,i<n->i≠k->f i=0)->sumQ n f=f k
 | 0,k,_,h,_=>absurd h (by omega)
 | n+1,k,f,h,h0=>by
  show sumQ n f+f n=f k
  by_cases e:k=n
  ·subst e;rw [qcQ k f fun i H=>h0 i (by omega) (by omega)];grind
  ·rw [qc7 n k f (by omega) fun i H F=>h0 i (by omega) F,h0 n (by omega) (fun h=>e h.symm)];grind
theorem sumQ_two (n k l:Nat) (f:Nat->Rat) (U:k<n) (V:l<n) (I:k≠l) (J:∀i,i<n->i≠k->i≠l->f i=0):sumQ n f=f k+f l:=by
 have e:sumQ n f=sumQ n (fun i=>(if i=k then f i else 0)+(if i=k then 0 else f i)):=qbX fun i _=>by split <;> grind
 rw [e,qdH,qc7 n k _ U (fun i _ F=>if_neg F),qc7 n l _ V (fun i O H=>by
  by_cases h:i=k
  ·rw [if_pos h]
  ·rw [if_neg h];exact J i O h H),if_pos rfl,if_neg (fun h=>I h.symm)]
theorem qeI:∀(n m:Nat) (f:Nat->Rat),sumQ (n+m) f=sumQ n f+sumQ m fun i=>f (n+i)
 | n,0,f=>by simp [sumQ];try grind
 | n,m+1,f=>by
  show sumQ (n+m) f+f (n+m)=sumQ n f+(sumQ m (fun i=>f (n+i))+f (n+m))
  rw [qeI n m f];grind
def Span (R n:Nat) (A:Nat->Nat->Rat) (v:Nat->Rat):Prop:=∃c:Nat->Rat,∀j,j<n->v j=sumQ R fun i=>c i*A i j
theorem Span.row {R n:Nat} {A:Nat->Nat->Rat} {i:Nat} (F:i<R):Span R n A (A i) :=
 ⟨fun k=>if k=i then 1 else 0,fun j _=>by
  rw [qc7 R i _ F (fun k _ H=>by simp [H])];simp⟩
theorem Span.congr {R n:Nat} {A B:Nat->Nat->Rat} {v u:Nat->Rat} (h:Span R n A v) (H:∀i,i<R->∀j,j<n->A i j=B i j) (O:∀j,j<n->v j=u j):Span R n B u:=by
 obtain⟨c,I⟩:=h;exact⟨c,fun j F=>by rw [<-O j F,I j F];exact qbX fun i J=>by rw [H i J j F]⟩
theorem Span.comb {R n:Nat} {A:Nat->Nat->Rat} {u v:Nat->Rat} (J:Span R n A u) (O:Span R n A v) (a b:Rat):Span R n A (fun j=>a*u j+b*v j):=by
 obtain⟨c,H⟩:=J;obtain⟨d,I⟩:=O;refine⟨fun i=>a*c i+b*d i,fun j F=>?_⟩
 show a*u j+b*v j=_
 rw [H j F,I j F,<-qcb,<-qcb,<-qdH];exact qbX fun i _=>by grind
theorem Span.trans {R S n:Nat} {A B:Nat->Nat->Rat} {v:Nat->Rat} (h:Span R n A v) (J:∀i,i<R->Span S n B (A i)):Span S n B v:=by
 obtain⟨c,O⟩:=h;have:∀i,∃d:Nat->Rat,i<R->∀j,j<n->A i j=sumQ S fun k=>d k*B k j:=fun i=>by
  by_cases F:i<R
  ·obtain⟨d,U⟩:=J i F;exact⟨d,fun _=>U⟩
  ·exact⟨fun _=>0,fun h=>absurd h F⟩
 refine⟨fun k=>sumQ R fun i=>c i*(Classical.choose (this i)) k,fun j H=>?_⟩;rw [O j H];have I:sumQ S (fun k=>sumQ R (fun i=>c i*(Classical.choose (this i)) k)*B k j)=sumQ S fun k=>sumQ R fun i=>c i*((Classical.choose (this i)) k*B k j):=qbX fun k _=>by
  rw [show sumQ R (fun i=>c i*(Classical.choose (this i)) k)*B k j=B k j*sumQ R (fun i=>c i*(Classical.choose (this i)) k) by grind,<-qcb];exact qbX fun i _=>by grind
 rw [I,<-qdl];refine qbX fun i F=>?_
 rw [qcb,Classical.choose_spec (this i) F j H]
def qdn (R S n:Nat) (A B:Nat->Nat->Rat):Prop:=(∀i,i<R->Span S n B (A i))/\∀i,i<S->Span R n A (B i)
theorem qdn.refl (R n:Nat) (A:Nat->Nat->Rat):qdn R R n A A:=⟨fun _ F=>Span.row F,fun _ F=>Span.row F⟩
theorem qdn.symm {R S n:Nat} {A B:Nat->Nat->Rat} (h:qdn R S n A B):qdn S R n B A:=⟨h.2,h.1⟩
theorem qdn.trans {R S T n:Nat} {A B C:Nat->Nat->Rat} (h:qdn R S n A B) (k:qdn S T n B C):qdn R T n A C :=
 ⟨fun i F=>(h.1 i F).trans k.1,fun i F=>(k.2 i F).trans h.2⟩
def sel {α:Type} (a:α) (P:Nat->α):Nat->α
 | 0=>a
 | s+1=>P s
def BR (k:Nat) (P:Nat->Nat->Int) (σ:Nat->Nat) (a:Nat->Int) (j:Nat):Int:=det (k+1) fun r x=>sel a P r (sel j σ x)
def DR (k:Nat) (P:Nat->Nat->Int) (σ:Nat->Nat):Int:=det k fun r x=>P r (σ x)
theorem qjo (P:Nat->Nat->Int) (σ:Nat->Nat) (a:Nat->Int) (j:Nat):BR 0 P σ a j=a j:=by
 show sumN 1 _=_
 show 0+sg 0*a j*1=a j
 rw [sg0];omega
theorem qeg {k:Nat} {P:Nat->Nat->Int} {σ:Nat->Nat} (O:DR k P σ≠0) (a p:Nat->Int) (c j:Nat) :
  BR k P σ a j*BR k P σ p c-BR k P σ a c*BR k P σ p j=DR k P σ*BR (k+1) (sel p P) (sel c σ) a j:=by
 have h:=qnP k (fun r x=>sel a (sel p P) r (sel j (sel c σ) x)) O;have F:bord k (fun r x=>sel a (sel p P) r (sel j (sel c σ) x)) 0 0=BR k P σ a j:=by
  unfold bord BR
  congr 1;funext r x
  cases r <;> cases x <;> rfl
 have J:bord k (fun r x=>sel a (sel p P) r (sel j (sel c σ) x)) 1 1=BR k P σ p c:=by
  unfold bord BR
  congr 1;funext r x
  cases r <;> cases x <;> rfl
 have H:bord k (fun r x=>sel a (sel p P) r (sel j (sel c σ) x)) 0 1=BR k P σ a c:=by
  unfold bord BR
  congr 1;funext r x
  cases r <;> cases x <;> rfl
 have I:bord k (fun r x=>sel a (sel p P) r (sel j (sel c σ) x)) 1 0=BR k P σ p j:=by
  unfold bord BR
  congr 1;funext r x
  cases r <;> cases x <;> rfl
 rw [F,J,H,I] at h;exact h
theorem qjp (k:Nat) (P:Nat->Nat->Int) (σ:Nat->Nat) (p:Nat->Int) (c:Nat):DR (k+1) (sel p P) (sel c σ)=BR k P σ p c:=rfl
theorem qhK (k:Nat) (P:Nat->Nat->Int) (σ:Nat->Nat) (a:Nat->Int) (j:Nat) (h:∀s,s<k->a (σ s)=0):BR k P σ a j=DR k P σ*a j:=by
 show sumN (k+1) (fun x=>sg x*sel a P 0 (sel j σ x)*det k fun r c=>sel a P (r+1) (sel j σ (skip x c)))=_
 rw [qfF k _ fun i F=>by
  show sg (i+1)*a (σ i)*_=0
  rw [h i F,qbJ,Int.zero_mul]]
 have e:(fun r c=>sel a P (r+1) (sel j σ (skip 0 c)))=fun r x=>P r (σ x):=by
  funext r c;rw [qdY];rfl
 rw [e,sg0,Int.one_mul,qbi];rfl
abbrev castM (M:Nat->Nat->Int):Nat->Nat->Rat:=fun i j=>(M i j:Rat)
def qb9 (f:Nat->Bool) (M:Nat->Nat->Int) (p c:Nat) (D:Int):Nat->Nat->Int:=fun i=>if f i=true/\i≠p then fun j=>(M p c*M i j-M i c*M p j).tdiv D else M i
theorem qjf {f:Nat->Bool} {R n p c:Nat} {M:Nat->Nat->Int} {D:Int} (Y:p<R) (Z:D≠0) (hc:M p c≠0) (hx:∀i,i<R->f i=true->i≠p->∀j,j<n->D∣M p c*M i j-M i c*M p j):qdn R R n (castM M) (castM (qb9 f M p c D)):=by
 have aa:(D:Rat)≠0:=by exact_mod_cast Z
 have ae:(M p c:Rat)≠0:=by exact_mod_cast hc
 have I:∀i,i<R->f i=true->i≠p->∀j,j<n->(D:Rat)*((qb9 f M p c D i j:Int):Rat)=M p c*M i j-M i c*M p j:=by
  intro i H V O j U;have e:qb9 f M p c D i j=(M p c*M i j-M i c*M p j).tdiv D:=by unfold qb9;rw [if_pos ⟨V,O⟩]
  have:=Int.mul_tdiv_cancel' (hx i H V O j U);rw [e]
  exact_mod_cast this
 have F:∀i,¬(f i=true/\i≠p)->qb9 f M p c D i=M i:=fun i h=>by unfold qb9;rw [if_neg h]
 have J:qb9 f M p c D p=M p:=F p (fun h=>h.2 rfl);refine⟨fun i H=>?_,fun i H=>?_⟩
 ·by_cases h:f i=true/\i≠p
  ·refine Span.congr (Span.comb (Span.row (A:=castM (qb9 f M p c D)) H) (Span.row (A:=castM (qb9 f M p c D)) Y) ((D:Rat) / M p c) ((M i c:Rat) / M p c)) (fun _ _ _ _=>rfl) fun j U=>?_
   have:=I i H h.1 h.2 j U
   show (D:Rat) / M p c*((qb9 f M p c D i j:Int):Rat)+(M i c:Rat) / M p c*((qb9 f M p c D p j:Int):Rat)=(M i j:Rat)
   rw [J]
   grind
  ·have:=Span.row (R:=R) (n:=n) (A:=castM (qb9 f M p c D)) (i:=i) H;exact Span.congr this (fun _ _ _ _=>rfl) fun j _=>by show ((qb9 f M p c D i j:Int):Rat)=_;rw [F i h]
 ·by_cases h:f i=true/\i≠p
  ·refine Span.congr (Span.comb (Span.row (A:=castM M) H) (Span.row (A:=castM M) Y) ((M p c:Rat) / D) (-(M i c:Rat) / D)) (fun _ _ _ _=>rfl) fun j U=>?_
   have:=I i H h.1 h.2 j U
   show (M p c:Rat) / D*(M i j:Rat) + -(M i c:Rat) / D*(M p j:Rat)=((qb9 f M p c D i j:Int):Rat)
   grind
  ·have:=Span.row (R:=R) (n:=n) (A:=castM M) (i:=i) H;exact Span.congr this (fun _ _ _ _=>rfl) fun j _=>by show (M i j:Rat)=((qb9 f M p c D i j:Int):Rat);rw [F i h]
def qcg {α:Type} (M:Nat->α) (k a:Nat):Nat->α:=fun j=>if j=k then M a else if j=a then M k else M j
theorem qjg {R n k a:Nat} {M:Nat->Nat->Int} (O:k<R) (J:a<R):qdn R R n (castM M) (castM (qcg M k a)):=by
 have row:∀i l,i<R->qcg M k a i=M l->Span R n (castM (qcg M k a)) (castM M l):=fun i l I h =>
  Span.congr (Span.row (R:=R) (n:=n) (A:=castM (qcg M k a)) (i:=i) I) (fun _ _ _ _=>rfl) fun j _=>by show ((qcg M k a i j:Int):Rat)=_;rw [h]
 have F:∀i l,l<R->qcg M k a i=M l->Span R n (castM M) (castM (qcg M k a) i):=fun i l U h =>
  Span.congr (Span.row (R:=R) (n:=n) (A:=castM M) (i:=l) U) (fun _ _ _ _=>rfl) fun j _=>by show (M l j:Rat)=((qcg M k a i j:Int):Rat);rw [h]
 refine⟨fun i I=>?_,fun i I=>?_⟩
 ·by_cases e:i=k
  ·subst e
   by_cases H:a=i
   ·subst H;exact row a a J (by unfold qcg;rw [if_pos rfl])
   ·exact row a i J (by unfold qcg;rw [if_neg H,if_pos rfl])
  ·by_cases H:i=a
   ·subst H;exact row k i O (by unfold qcg;rw [if_pos rfl])
   ·exact row i i I (by unfold qcg;rw [if_neg e,if_neg H])
 ·by_cases e:i=k
  ·exact F i a J (by unfold qcg;rw [if_pos e])
  ·by_cases H:i=a
   ·exact F i k O (by unfold qcg;rw [if_neg e,if_pos H])
   ·exact F i i I (by unfold qcg;rw [if_neg e,if_neg H])
theorem qjY {α:Type} {M:Nat->α} {k a i:Nat} (H:i<k) (F:k<=a):qcg M k a i=M i:=by unfold qcg;rw [if_neg (by omega),if_neg (by omega)]
structure ElimSt (R n k:Nat) (D:Int) (M A:Nat->Nat->Int):Prop where
 span:qdn R R n (castM M) (castM A)
 dets:∃(P:Nat->Nat->Int) (σ:Nat->Nat) (a:Nat->Nat->Int),DR k P σ=D/\(∀s,s<k->σ s<k)/\(∀i,k<=i->i<R->∀j,j<n->M i j=BR k P σ (a i) j) /\
  ∀i,i<k->∀j,j<n->M i j=D*(if j=i then 1 else 0)-BR k P σ (fun x=>if x=i then 1 else 0) j
 diag:∀i,i<R->∀c,c<k->M i c=if i=c then D else 0
 nz:D≠0
theorem ElimSt.start (R n:Nat) (A:Nat->Nat->Int):ElimSt R n 0 1 A A :=
 ⟨qdn.refl _ _ _,⟨fun _ _=>0,fun _=>0,A,rfl,fun s I=>absurd I (by omega),fun i _ _ j _=>(qjo _ _ _ _).symm,fun i F=>absurd F (by omega)⟩,fun _ _ j H=>absurd H (by omega),by decide⟩
theorem ElimSt.swap {R n k a:Nat} {D:Int} {M A:Nat->Nat->Int} (h:ElimSt R n k D M A) (Y:k<=a) (J:a<R):ElimSt R n k D (qcg M k a) A:=by
 have V:k<R:=by omega
 refine⟨(qjg V J).symm.trans h.span,?_,?_,h.nz⟩
 ·obtain⟨P,σ,b,Z,hσ,O,hl⟩:=h.dets;refine⟨P,σ,qcg b k a,Z,hσ,fun i H hR j I=>?_,fun i H j I=>by rw [qjY H Y];exact hl i H j I⟩;unfold qcg
  by_cases e:i=k
  ·rw [if_pos e,if_pos e];exact O a Y J j I
  ·by_cases F:i=a
   ·rw [if_neg e,if_neg e,if_pos F,if_pos F];exact O k qN V j I
   ·rw [if_neg e,if_neg e,if_neg F,if_neg F];exact O i H hR j I
 ·intro i H c U;have hd:=h.diag i H c U;unfold qcg
  by_cases e:i=k
  ·rw [if_pos e,h.diag a J c U,if_neg (by omega),if_neg (by omega)]
  ·by_cases F:i=a
   ·rw [if_neg e,if_pos F,h.diag k V c U,if_neg (by omega),if_neg (by omega)]
   ·rw [if_neg e,if_neg F,hd]
theorem ElimSt.next {R n k:Nat} {D:Int} {M A:Nat->Nat->Int} (h:ElimSt R n k D M A) (hk:k<R) (Z:k<n) (h0:M k k≠0):ElimSt R n (k+1) (M k k) (qb9 (fun _=>true) M k k D) A:=by
 obtain⟨P,σ,b,hD,hσ,hb,hl⟩:=h.dets;have U:DR k P σ≠0:=by rw [hD];exact h.nz
 have V:∀j,j<n->M k j=BR k P σ (b k) j:=hb k qN hk;have I:∀i,i≠k->∀j,qb9 (fun _=>true) M k k D i j=(M k k*M i j-M i k*M k j).tdiv D:=fun i H j=>by
  unfold qb9;rw [if_pos ⟨rfl,H⟩]
 have J:qb9 (fun _=>true) M k k D k=M k:=by unfold qb9;rw [if_neg (fun h=>h.2 rfl)]
 have aa:∀i,k<i->i<R->∀j,j<n->M k k*M i j-M i k*M k j=D*BR (k+1) (sel (b k) P) (sel k σ) (b i) j:=fun i H hR j F=>by
  have:=qeg U (b i) (b k) k j;rw [hD,<-hb i (by omega) hR j F,<-V k Z,<-hb i (by omega) hR k Z,<-V j F] at this;rw [<-this,qbi (M i j)]
 have ae:∀i,i<k->∀j,j<n->M k k*M i j-M i k*M k j=D*(M k k*(if j=i then 1 else 0)-BR (k+1) (sel (b k) P) (sel k σ) (fun x=>if x=i then 1 else 0) j):=fun i H j F=>by
  have:=qeg U (fun x=>if x=i then 1 else 0) (b k) k j;rw [hD,<-V k Z,<-V j F] at this;rw [hl i H j F,hl i H k Z,if_neg (by omega:¬k=i),Int.mul_sub D,<-this];generalize BR k P σ (fun x=>if x=i then 1 else 0) j=X;generalize BR k P σ (fun x=>if x=i then 1 else 0) k=Y;generalize (if j=i then (1:Int) else 0)=E;rw [qbJ,Int.zero_sub,qbz,Int.sub_neg,Int.mul_sub,qbi X,Int.mul_left_comm (M k k) D];omega
 have ag:∀j,j<n->M k j=M k k*(if j=k then 1 else 0)-BR (k+1) (sel (b k) P) (sel k σ) (fun x=>if x=k then 1 else 0) j:=fun j F=>by
  have:=qeg U (fun x=>if x=k then 1 else 0) (b k) k j;rw [hD,<-V k Z,<-V j F,qhK k P σ _ j (fun s hs=>if_neg (by have:=hσ s hs;omega)),qhK k P σ _ k (fun s hs=>if_neg (by have:=hσ s hs;omega)),hD,if_pos rfl] at this;have e:D*(M k k*(if j=k then 1 else 0)-M k j)=D*BR (k+1) (sel (b k) P) (sel k σ) (fun x=>if x=k then 1 else 0) j:=by
   rw [<-this,Int.mul_sub,Int.mul_one];generalize (if j=k then (1:Int) else 0)=E;rw [qbC,qbi E]
  have:=Int.eq_of_mul_eq_mul_left h.nz e;omega
 refine⟨(qjf hk h.nz h0 fun i H _ af j F=>?_).symm.trans h.span,⟨sel (b k) P,sel k σ,b,by rw [qjp];exact (V k Z).symm,?_,fun i H hR j F=>?_,fun i H j F=>?_⟩,fun i H c ah=>?_,h0⟩
 ·rcases Nat.lt_or_gt_of_ne af with e | e
  ·exact⟨_,ae i e j F⟩
  ·exact⟨_,aa i e H j F⟩
 ·intro s hs;cases s with
  | zero=>show k<k+1;omega
  | succ s=>show σ s<k+1;have:=hσ s (by omega);omega
 ·rw [I i (by omega) j,aa i (by omega) hR j F,Int.mul_tdiv_cancel_left _ h.nz]
 ·by_cases e:i=k
  ·subst e;rw [J];exact ag j F
  ·rw [I i e j,ae i (by omega) j F,Int.mul_tdiv_cancel_left _ h.nz]
 ·by_cases e:i=k
  ·subst e;rw [J]
   by_cases O:i=c
   ·rw [if_pos O,O]
   ·rw [if_neg O,h.diag i H c (by omega),if_neg O]
  ·rw [I i e c]
   by_cases O:c=k
   ·subst O;rw [if_neg e,qbi,Int.sub_self];exact Int.zero_tdiv _
   ·rw [h.diag i H c (by omega),h.diag k hk c (by omega),if_neg (fun h:k=c=>O h.symm),qbJ,Int.sub_zero]
    by_cases e3:i=c
    ·rw [if_pos e3,if_pos e3,Int.mul_tdiv_cancel _ h.nz]
    ·rw [if_neg e3,if_neg e3,qbJ];exact Int.zero_tdiv _
def Sing (R:Nat) (A:Nat->Nat->Rat):Prop:=∃y:Nat->Rat,(∃j,j<R/\y j≠0)/\∀i,i<R->sumQ R (fun j=>A i j*y j)=0
def qcL (R:Nat) (A:Nat->Nat->Rat) (b x:Nat->Rat):Prop:=∀i,i<R->sumQ R (fun j=>A i j*x j)=b i
theorem qcL.uniq {R:Nat} {A:Nat->Nat->Rat} {b x y:Nat->Rat} (h:¬Sing R A) (hx:qcL R A b x) (hy:qcL R A b y):∀i,i<R->x i=y i:=by
 intro i H;apply Classical.byContradiction;intro hne;refine h ⟨fun j=>x j-y j,⟨i,H,fun h=>hne (by grind)⟩,fun k F=>?_⟩;have e:sumQ R (fun j=>A k j*(x j-y j))=sumQ R (fun j=>A k j*x j)+(-1)*sumQ R (fun j=>A k j*y j):=by
  rw [<-qcb,<-qdH];exact qbX fun j _=>by grind
 rw [e,hx k F,hy k F];grind
theorem Sing.congr {R:Nat} {A B:Nat->Nat->Rat} (h:Sing R A) (e:∀i,i<R->∀j,j<R->A i j=B i j):Sing R B:=by
 obtain⟨y,hy,H⟩:=h;exact⟨y,hy,fun i F=>by rw [<-H i F];exact qbX fun j I=>by rw [e i F j I]⟩
theorem qcL.congr {R:Nat} {A B:Nat->Nat->Rat} {b c x y:Nat->Rat} (h:qcL R A b x) (e:∀i,i<R->∀j,j<R->A i j=B i j) (I:∀i,i<R->b i=c i) (ex:∀i,i<R->x i=y i):qcL R B c y:=fun i F=>by
 rw [<-I i F,<-h i F];exact qbX fun j H=>by rw [e i F j H,ex j H]
theorem Span.kill {R n:Nat} {A:Nat->Nat->Rat} {v y:Nat->Rat} (h:Span R n A v) (F:∀i,i<R->sumQ n (fun j=>A i j*y j)=0):sumQ n (fun j=>v j*y j)=0:=by
 obtain⟨c,H⟩:=h;have e:sumQ n (fun j=>v j*y j)=sumQ n fun j=>sumQ R fun i=>c i*(A i j*y j):=qbX fun j J=>by
  rw [H j J,show sumQ R (fun i=>c i*A i j)*y j=y j*sumQ R (fun i=>c i*A i j) by grind,<-qcb];exact qbX fun i _=>by grind
 rw [e,qdl];refine qcQ _ _ fun i I=>?_
 rw [qcb,F i I];grind
theorem qhb (n:Nat) (f x:Nat->Rat) (a:Rat):sumQ (n+1) (fun j=>f j*(if j<n then x j else a))=sumQ n (fun j=>f j*x j)+f n*a:=by
 show sumQ n _+f n*(if n<n then x n else a)=_
 rw [if_neg (Nat.lt_irrefl n)]
 congr 1
 exact qbX fun j F=>by rw [if_pos F]
theorem qix {R n k:Nat} {D:Int} {M A:Nat->Nat->Int} (h:ElimSt R n k D M A) (hn:R<=n) (hk:k<R) (V:∀i,k<=i->i<R->M i k=0):Sing R (castM A):=by
 have Y:(D:Rat)≠0:=by exact_mod_cast h.nz
 refine⟨fun j=>if j<k then -(M j k:Rat) else if j=k then (D:Rat) else 0,⟨k,hk,by simp only [Nat.lt_irrefl,if_false,if_true];exact Y⟩,?_⟩;have Z:∀i,i<R->sumQ n (fun j=>castM M i j*(if j<k then -(M j k:Rat) else if j=k then (D:Rat) else 0))=0:=by
  intro i H
  by_cases I:i<k
  ·rw [sumQ_two n i k _ (by omega) (by omega) (by omega) fun j hj J O=>by
    by_cases e:j<k
    ·show (M i j:Rat)*_=0
     rw [h.diag i H j e,if_neg (fun h=>J h.symm)];simp
    ·rw [if_neg e,if_neg O];grind]
   rw [if_pos I,if_neg (Nat.lt_irrefl k),if_pos rfl]
   show (M i i:Rat)*_+(M i k:Rat)*_=0
   rw [h.diag i H i I,if_pos rfl];grind
  ·refine qcQ _ _ fun j hj=>?_
   by_cases e:j<k
   ·show (M i j:Rat)*_=0
    rw [h.diag i H j e,if_neg (by omega)];simp
   ·by_cases U:j=k
    ·show (M i j:Rat)*_=0
     rw [U,V i (by omega) H];simp
    ·rw [if_neg e,if_neg U];grind
 intro i H;have F:=(h.span.2 i H).kill Z;have e:sumQ n (fun j=>castM A i j*(if j<k then -(M j k:Rat) else if j=k then (D:Rat) else 0))=sumQ R (fun j=>castM A i j*(if j<k then -(M j k:Rat) else if j=k then (D:Rat) else 0)):=by
  obtain⟨m,rfl⟩:∃m,n=R+m:=⟨n-R,by omega⟩;rw [qeI,qcQ m _ fun j _=>by rw [if_neg (by omega),if_neg (by omega)];grind]
  grind
 rw [e] at F;exact F
theorem qgi {R:Nat} {z:Int} {M A:Nat->Nat->Int} (h:ElimSt R (R+1) R z M A):qcL R (castM A) (fun i=>castM A i R) (fun i=>(M i R:Rat) / z)/\¬Sing R (castM A):=by
 have U:(z:Rat)≠0:=by exact_mod_cast h.nz
 have J:∀(x:Nat->Rat) (a:Rat) i,i<R->sumQ (R+1) (fun j=>castM M i j*(if j<R then x j else a))=z*x i+M i R*a:=by
  intro x a i F;rw [qhb,qc7 R i _ F fun j H I=>by show (M i j:Rat)*_=0;rw [h.diag i F j H,if_neg (fun h=>I h.symm)];simp]
  show (M i i:Rat)*x i+(M i R:Rat)*a=_
  rw [h.diag i F i F,if_pos rfl]
 refine⟨fun i F=>?_,?_⟩
 ·have:=(h.span.2 i F).kill (y:=fun j=>if j<R then (M j R:Rat) / z else -1) fun i F=>by rw [J _ _ i F];grind
  rw [qhb] at this
  show sumQ R _=castM A i R
  grind
 ·rintro ⟨y,⟨j,H,hy⟩,O⟩;have:=(h.span.1 j H).kill (y:=fun j=>if j<R then y j else 0) fun i F=>by rw [qhb,O i F];grind
  rw [J _ _ j H] at this;apply hy;have:(z:Rat)*y j=0:=by grind
  rcases Rat.mul_eq_zero.1 this with h | h
  ·exact absurd h U
  ·exact h
theorem qfb:∀{n:Nat} {f:Nat->Rat},(∀i,i<n->0<=f i)->0<=sumQ n f
 | 0,_,_=>by show (0:Rat)<=0;exact Rat.le_refl
 | n+1,f,h=>by
  have F:=qfb (n:=n) (f:=f) fun i I=>h i (by omega)
  have H:=h n (by omega)
  show 0<=sumQ n f+f n
  grind
theorem qew:∀{n:Nat} {f:Nat->Rat},(∀i,i<n->0<=f i)->sumQ n f=0->∀i,i<n->f i=0
 | 0,_,_,_,i,F=>absurd F (by omega)
 | n+1,f,h,H,i,F=>by
  have I:=qfb (n:=n) (f:=f) fun i F=>h i (by omega)
  have J:=h n (by omega);have O:sumQ n f+f n=0:=H
  by_cases e:i=n
  ·rw [e];grind
  ·exact qew (n:=n) (f:=f) (fun i F=>h i (by omega)) (by grind) i (by omega)
theorem qnI (a:Rat):0<=a*a:=by
 rcases Rat.le_total (a:=0) (b:=a) with h | h
 ·exact Rat.mul_nonneg h h
 ·have:=Rat.mul_nonneg (a:=-a) (b:=-a) (by grind) (by grind)
  grind
theorem qkO (n:Nat) (f g:Nat->Rat):sumQ n (fun i=>f i-g i)=sumQ n f-sumQ n g:=by
 have h:=qdH n f fun i=>(-1)*g i
 rw [qcb] at h;rw [show sumQ n (fun i=>f i-g i)=sumQ n (fun i=>f i+(-1)*g i) from qbX fun i _=>by grind,h];grind
def resR (n:Nat) (A:Nat->Nat->Rat) (b z:Nat->Rat) (i:Nat):Rat:=sumQ n (fun j=>A i j*z j)-b i
def msR (R n:Nat) (A:Nat->Nat->Rat) (b w z:Nat->Rat):Rat:=sumQ R fun i=>w i*(resR n A b z i*resR n A b z i)
theorem best_law {R n:Nat} (A:Nat->Nat->Rat) (b w x y:Nat->Rat) (hw:∀i,i<R->0<=w i) (hx:∀r,r<n->sumQ n (fun c=>sumQ R (fun i=>w i*(A i r*A i c))*x c)=sumQ R fun i=>w i*(A i r*b i))
  (hs:¬Sing n (fun r c=>sumQ R fun i=>w i*(A i r*A i c))):msR R n A b w x<=msR R n A b w y/\(msR R n A b w x=msR R n A b w y↔∀j,j<n->x j=y j):=by
 have he:∀i,resR n A b y i=resR n A b x i+sumQ n (fun j=>A i j*(y j-x j)):=fun i=>by
  unfold resR;rw [show sumQ n (fun j=>A i j*(y j-x j))=sumQ n (fun j=>A i j*y j)-sumQ n (fun j=>A i j*x j) by
   rw [<-qkO];exact qbX fun j _=>by grind]
  grind
 obtain⟨e,I⟩:∃e:Nat->Rat,∀i,sumQ n (fun j=>A i j*(y j-x j))=e i:=⟨_,fun _=>rfl⟩;have F:sumQ R (fun i=>w i*(resR n A b x i*e i))=0:=by
  have V:sumQ R (fun i=>w i*(resR n A b x i*e i))=sumQ R fun i=>sumQ n fun j=>(y j-x j)*(w i*(A i j*resR n A b x i)):=qbX fun i _=>by
   rw [<-I i,show w i*(resR n A b x i*sumQ n fun j=>A i j*(y j-x j))=(w i*resR n A b x i)*sumQ n fun j=>A i j*(y j-x j) by grind,<-qcb];exact qbX fun j _=>by grind
  rw [V,qdl];refine qcQ _ _ fun j O=>?_
  rw [qcb];have h2:sumQ R (fun i=>w i*(A i j*resR n A b x i))=0:=by
   have h3:=hx j O;have h4:sumQ n (fun c=>sumQ R (fun i=>w i*(A i j*A i c))*x c)=sumQ R fun i=>w i*(A i j*sumQ n fun c=>A i c*x c):=by
    have Y:sumQ n (fun c=>sumQ R (fun i=>w i*(A i j*A i c))*x c)=sumQ n fun c=>sumQ R fun i=>x c*(w i*(A i j*A i c)):=qbX fun c _=>by rw [qcb];grind
    rw [Y,qdl];refine qbX fun i _=>?_
    rw [show w i*(A i j*sumQ n fun c=>A i c*x c)=(w i*A i j)*sumQ n fun c=>A i c*x c by grind,<-qcb];exact qbX fun c _=>by grind
   rw [h4] at h3;rw [show sumQ R (fun i=>w i*(A i j*resR n A b x i))=sumQ R (fun i=>w i*(A i j*sumQ n fun c=>A i c*x c))-sumQ R (fun i=>w i*(A i j*b i)) by
    rw [<-qkO];refine qbX fun i _=>?_
    unfold resR;grind,h3]
   grind
  rw [h2];grind
 have U:msR R n A b w y=msR R n A b w x+sumQ R (fun i=>w i*(e i*e i)):=by
  have V:msR R n A b w y=sumQ R fun i=>(w i*(resR n A b x i*resR n A b x i)+2*(w i*(resR n A b x i*e i)))+w i*(e i*e i):=qbX fun i _=>by
   rw [he i,I i];grind
  rw [V,qdH,qdH,qcb,F];unfold msR;grind
 have H:∀i,i<R->0<=w i*(e i*e i):=fun i J=>Rat.mul_nonneg (hw i J) (qnI _)
 have h0:=qfb H;refine⟨by rw [U];grind,fun hE=>?_,fun hE=>?_⟩
 ·have hz:sumQ R (fun i=>w i*(e i*e i))=0:=by grind
  have aa:=qew H hz;have Z:∀i,i<R->w i*e i=0:=fun i J=>by
   have:=aa i J;rcases Rat.mul_eq_zero.1 this with h | h
   ·rw [h];grind
   ·rcases Rat.mul_eq_zero.1 h with h | h <;> rw [h] <;> grind
  intro j O;apply Classical.byContradiction;intro hne;refine hs ⟨fun c=>y c-x c,⟨j,O,fun h=>hne (by grind)⟩,fun r hr=>?_⟩;have Y:sumQ n (fun c=>sumQ R (fun i=>w i*(A i r*A i c))*(y c-x c))=sumQ n fun c=>sumQ R fun i=>(y c-x c)*(w i*(A i r*A i c)):=qbX fun c _=>by rw [qcb];grind
  rw [Y,qdl];refine qcQ _ _ fun i J=>?_
  have h6:sumQ n (fun c=>(y c-x c)*(w i*(A i r*A i c)))=(w i*A i r)*sumQ n fun c=>A i c*(y c-x c):=by
   rw [<-qcb];exact qbX fun c _=>by grind
  rw [h6,I i];have:=Z i J;rw [show w i*A i r*e i=A i r*(w i*e i) by grind,this];grind
 ·refine qbX fun i _=>?_
  have:resR n A b x i=resR n A b y i:=by
   unfold resR;rw [show sumQ n (fun j=>A i j*x j)=sumQ n (fun j=>A i j*y j) from qbX fun j O=>by rw [hE j O]]
  rw [this]
def mval:List Nat->Nat
 | []=>0
 | d :: l=>d+1000000000*mval l
theorem qcz (l r:List Nat):mval (l++r)=mval l+1000000000 ^ l.length*mval r:=by
 induction l with
 | nil=>simp [mval]
 | cons d l ih =>
  simp only [List.cons_append,mval,ih,qbM,qaB];rw [qaZ,qat (1000000000 ^ l.length) 1000000000,qaw];omega
theorem qfO (l:List Nat) (h:∀d∈l,d<1000000000):mval l<1000000000 ^ l.length:=by
 induction l with
 | nil=>simp [mval]
 | cons d l ih =>
  have F:=h d qbS;have H:=ih fun x hx=>h x (qbK _ hx)
  simp only [mval,qbM,qaB];omega
theorem qeQ (n:Nat):mval (List.replicate n 0)=0:=by
 induction n with
 | zero=>rfl
 | succ n ih=>simp [qbn,mval,ih]
theorem qcW (l:List Nat) (d:Nat):mval (l++[d])=mval l+1000000000 ^ l.length*d:=by
 rw [qcz];simp [mval]
theorem qh0 (l:List Nat) (i d:Nat) (h:i<l.length):mval (l.set i d)+1000000000 ^ i*l[i]=mval l+1000000000 ^ i*d:=by
 induction l generalizing i with
 | nil=>exact absurd h (by simp)
 | cons x l ih =>
  cases i with
  | zero=>simp [mval];omega
  | succ i =>
   have F:i<l.length:=by simpa using h
   have:=ih i F;simp only [List.set_cons_succ,mval,List.getElem_cons_succ,qaB];have H:1000000000 ^ i*1000000000*l[i]=1000000000*(1000000000 ^ i*l[i]):=by rw [qat (1000000000 ^ i),qaw]
   have I:1000000000 ^ i*1000000000*d=1000000000*(1000000000 ^ i*d):=by rw [qat (1000000000 ^ i),qaw]
   omega
theorem qiP (l m:List Nat) (i:Nat) (U:∀d∈l,d<1000000000) (O:i<l.length) (H:i<m.length) (h:l[i]<m[i]) (F:l.drop (i+1)=m.drop (i+1)):mval l<mval m:=by
 have I:l=l.take i++(l[i] :: l.drop (i+1)):=by rw [<-qby O,List.take_append_drop]
 have J:m=m.take i++(m[i] :: m.drop (i+1)):=by rw [<-qby H,List.take_append_drop]
 have V:mval (l.take i)<1000000000 ^ i:=by
  have:=qfO (l.take i) fun d F=>U d (qbL F)
  rwa [qax,qa9 (by omega)] at this
 rw [I,J,qcz,qcz,qax,qax,qa9 (by omega),qa9 (by omega)];simp only [mval,F];generalize mval (m.drop (i+1))=x;have:1000000000 ^ i*(l[i]+1000000000*x)+1000000000 ^ i<=1000000000 ^ i*(m[i]+1000000000*x):=by
  rw [<-Nat.mul_succ];exact qaC _ (by omega)
 omega
theorem qgO (l m:List Nat) (I:∀d∈l,d<1000000000) (h:l.length<m.length) (J:m.getLast?≠some 0):mval l<mval m:=by
 have O:=qfO l I;cases H:m.reverse with
 | nil=>rw [List.reverse_eq_nil_iff] at H;subst H;exact absurd h (by simp)
 | cons d r =>
  have e:m=r.reverse++[d]:=by rw [<-List.reverse_reverse m,H,List.reverse_cons]
  have Y:d≠0:=by
   rintro rfl;apply J;rw [e];simp
  rw [e,qcW];have F:l.length<=r.reverse.length:=by rw [e] at h;simp at h ⊢;omega
  have U:1000000000 ^ l.length<=1000000000 ^ r.reverse.length:=qa4 (by omega) F;have V:1000000000 ^ r.reverse.length*1<=1000000000 ^ r.reverse.length*d:=qaC _ (by omega);omega
section
variable {B U V T head top u2 v2 lu lv:Nat}
theorem ql9 (_hT:0<T) (hU:U=(head*B+u2)*T+lu) (H:V=(top*B+v2)*T+lv) (O:u2<B) (I:lu<T) (J:0<top):U / V<=head / top:=by
 rw [Nat.le_div_iff_mul_le J];have h1:U / V*V<=U:=Nat.div_mul_le_self U V;generalize U / V=Q at *;have h2:Q*(top*B*T)<=Q*V:=qaC _ (by
  rw [H,qaE];omega)
 have h3:U<(head+1)*B*T:=by
  rw [hU];have:(head*B+u2+1)*T<=(head+1)*B*T:=qaH _ (by rw [qaE head 1,qbu];omega);have e:(head*B+u2+1)*T=(head*B+u2)*T+T:=by rw [qaE _ 1,qbu]
  omega
 have F:Q*top*(B*T)<(head+1)*(B*T):=by
  have Y:Q*top*(B*T)=Q*(top*B*T):=by rw [qaw,qaw]
  have Z:(head+1)*(B*T)=(head+1)*B*T:=by rw [qaw]
  omega
 have:=Nat.lt_of_mul_lt_mul_right F;omega
theorem est_test (F:0<V) (hU:U=(head*B+u2)*T+lu) (hV:V=(top*B+v2)*T+lv) (I:lu<T) {q r:Nat} (J:q*top+r=head) (h:r*B+u2<q*v2):U / V<q:=by
 rw [qbE F];have H:head*B+u2+1<=q*(top*B+v2):=by
  have e:q*top*B+r*B=head*B:=by rw [<-J,qaE]
  have O:q*(top*B+v2)=q*top*B+q*v2:=by rw [qaZ,qaw]
  omega
 have Y:(head*B+u2+1)*T<=q*(top*B+v2)*T:=qaH _ H;have Z:q*(top*B+v2)*T<=q*V:=by
  rw [qaw];exact qaC _ (by omega)
 have h4:(head*B+u2+1)*T=(head*B+u2)*T+T:=by rw [qaE _ 1,qbu]
 omega
theorem est_done (F:0<V) (hU:U=(head*B+u2)*T+lu) (Z:V=(top*B+v2)*T+lv) (aa:lv<T) (ht:0<top) {q r:Nat} (ae:q<=B) (hq:q*top+r=head) (h:q*v2<=r*B+u2):q<=U / V+1:=by
 rcases qaU q with rfl | hq0
 ·exact qal _
 obtain⟨p,rfl⟩:∃p,q=p+1:=⟨q-1,by omega⟩;have:p<=U / V:=by
  rw [Nat.le_div_iff_mul_le F];have h1:p*V<=p*((top*B+v2+1)*T):=qaC _ (by rw [Z,qaE (top*B+v2) 1,qbu];omega);have O:p*(top*B+v2+1)<=head*B+u2:=by
   have e:(p+1)*top*B+r*B=head*B:=by rw [<-hq];exact (qaE _ _ _).symm
   have H:(p+1)*top*B=p*(top*B)+top*B:=by rw [qaE p 1,qbu,qaE,qaw]
   have I:p*(top*B+v2+1)=p*(top*B)+p*v2+p:=by rw [qaZ,qaZ,qbO]
   have J:(p+1)*v2=p*v2+v2:=by rw [qaE,qbu]
   have e5:B<=top*B:=Nat.le_mul_of_pos_left _ ht;rw [I];rw [H] at e;rw [J] at h;omega
  have Y:p*(top*B+v2+1)*T<=(head*B+u2)*T:=qaH _ O;rw [qaw] at Y;omega
 omega
theorem est_head (_hT:0<T) (_hB:0<B) (hU:U=(head*B+u2)*T+lu) (hV:V=(top*B+v2)*T+lv) (J:v2<B) (I:lv<T) (h:U<B*V):head<(top+1)*B:=by
 have F:V<(top+1)*B*T:=by
  have e:(top*B+v2+1)*T<=(top+1)*B*T:=qaH _ (by rw [qaE top 1,qbu];omega);have O:(top*B+v2+1)*T=(top*B+v2)*T+T:=by rw [qaE _ 1,qbu]
  omega
 have Y:head*(B*T)<=U:=by
  rw [hU,qaE,qaw head];omega
 have Z:B*V<=B*((top+1)*B*T):=qaC _ (qar F);have h4:B*((top+1)*B*T)=(top+1)*B*(B*T):=by
  rw [<-qaw,qat B ((top+1)*B),qaw]
 have H:head*(B*T)<(top+1)*B*(B*T):=by omega
 exact Nat.lt_of_mul_lt_mul_right H
end
def Dig (L:List Nat):Prop:=∀k,L.getD k 0<1000000000
theorem Dig.mem {L:List Nat} (h:Dig L):∀d∈L,d<1000000000:=fun d F=>by
 obtain⟨i,H,rfl⟩:=List.getElem_of_mem F;have:=h i
 rwa [qaa,qad H] at this
theorem Dig.of {L:List Nat} (h:∀d∈L,d<1000000000):Dig L:=fun k=>by
 rw [qaa];cases hk:L[k]? with
 | none=>exact (by decide:0<1000000000)
 | some x=>exact h x (List.mem_of_getElem? hk)
theorem Dig.nil:Dig []:=Dig.of (by simp)
theorem Dig.snoc {L:List Nat} (h:Dig L) {d:Nat} (F:d<1000000000):Dig (L++[d]):=Dig.of fun x hx=>by
 rcases qaK.1 hx with hx | hx
 ·exact h.mem x hx
 ·rw [qap.1 hx];exact F
theorem Dig.set {L:List Nat} (h:Dig L) {d:Nat} (F:d<1000000000) (i:Nat):Dig (L.set i d):=Dig.of fun x hx=>by
 rcases List.mem_or_eq_of_mem_set hx with hx | rfl
 ·exact h.mem x hx
 ·exact F
theorem Dig.take {L:List Nat} (h:Dig L) (n:Nat):Dig (L.take n):=Dig.of fun x hx=>h.mem x (qbL hx)
theorem Dig.drop {L:List Nat} (h:Dig L) (n:Nat):Dig (L.drop n):=Dig.of fun x hx=>h.mem x (List.mem_of_mem_drop hx)
theorem Dig.append {L M:List Nat} (h:Dig L) (F:Dig M):Dig (L++M):=Dig.of fun x hx=>(qaK.1 hx).elim (h.mem x) (F.mem x)
theorem Dig.zeros (n:Nat):Dig (List.replicate n 0):=Dig.of fun x hx=>by rw [(List.mem_replicate.1 hx).2];decide
theorem Dig.lt {L:List Nat} (h:Dig L):mval L<1000000000 ^ L.length:=qfO L h.mem
theorem qdO {L:List Nat} {k:Nat} (h:k<L.length):L[k]? = some (L.getD k 0):=by
 rw [qad h,qaa,qad h];rfl
theorem qdA {L:List Nat} {k:Nat} (h:L.length<=k):L.getD k 0=0:=by
 rw [qaa,qaS h];rfl
theorem qbY (L:List Nat) (k:Nat):mval (L.take (k+1))=mval (L.take k)+1000000000 ^ k*L.getD k 0:=by
 by_cases h:k<L.length
 ·rw [List.take_add_one,qdO h]
  show mval (L.take k++[L.getD k 0])=_
  rw [qcW,qax,qa9 (qar h)]
 ·rw [qak (by omega),qak (by omega),qdA (by omega)];simp
theorem qcV (L:List Nat) (k:Nat):mval (L.drop k)=L.getD k 0+1000000000*mval (L.drop (k+1)):=by
 by_cases h:k<L.length
 ·rw [qby h];simp only [mval];rw [qaa,qad h];rfl
 ·rw [qaT (by omega),qaT (by omega),qdA (by omega)];simp [mval]
theorem qd2 (L:List Nat) (k:Nat) (F:k<=L.length):mval L=mval (L.take k)+1000000000 ^ k*mval (L.drop k):=by
 conv=>lhs;rw [<-List.take_append_drop k L]
 rw [qcz,qax,qa9 F]
theorem getD_set_ne {L:List Nat} {i j d:Nat} (h:i≠j):(L.set i d).getD j 0=L.getD j 0:=by
 rw [qaa,List.getElem?_set_ne h,<-qaa]
theorem qcT {L:List Nat} {i d:Nat} (h:i<L.length):(L.set i d).getD i 0=d:=by
 rw [qaa,List.getElem?_set_self h];rfl
theorem qc3 {L:List Nat} {k d:Nat} (h:k<L.length):mval ((L.set k d).take (k+1))=mval (L.take k)+1000000000 ^ k*d:=by
 rw [qbY,qcT h]
 congr 2
 rw [List.take_set_of_le qN]
theorem qdj {L:List Nat} {k d:Nat} (h:k<L.length):mval ((L.set k d).drop k)=d+1000000000*mval (L.drop (k+1)):=by
 rw [qcV,qcT h,List.drop_set_of_lt (by omega)]
theorem qeF {L:List Nat} {k d:Nat} (h:k<L.length):mval (L.set k d)+1000000000 ^ k*L.getD k 0=mval L+1000000000 ^ k*d:=by
 have:=qh0 L k d h
 rwa [qaa,qad h]
def Zero (L:List Nat) (n:Nat):Prop:=∀k,n<=k->L.getD k 0=0
theorem Zero.all (L:List Nat):Zero L L.length:=fun _ h=>qdA h
theorem Zero.mono {L:List Nat} {n m:Nat} (h:Zero L n) (H:n<=m):Zero L m:=fun k F=>h k (by omega)
theorem Zero.zeros (n m:Nat):Zero (List.replicate n 0) m:=fun k _=>by
 by_cases h:k<n
 ·rw [qaa,qbc,if_pos h];rfl
 ·exact qdA (by rw [qaO];omega)
theorem Zero.set {L:List Nat} {n k d:Nat} (h:Zero L n) (H:k<n):Zero (L.set k d) n:=fun j F=>by rw [getD_set_ne (by omega)];exact h j F
theorem Zero.set_succ {L:List Nat} {n d:Nat} (h:Zero L n):Zero (L.set n d) (n+1):=fun j F=>by rw [getD_set_ne (by omega)];exact h j (by omega)
theorem Zero.down {L:List Nat} {n:Nat} (h:Zero L (n+1)) (F:L.getD n 0=0):Zero L n:=fun k H=>by
 by_cases e:k=n
 ·rw [e];exact F
 ·exact h k (by omega)
theorem qdv {L:List Nat} {n:Nat} (h:Zero L n):mval (L.drop n)=0:=by
 induction hm:L.length-n generalizing n with
 | zero=>rw [qaT (by omega)];rfl
 | succ m ih =>
  rw [qcV,h n qN,ih (h.mono (by omega)) (by omega)]
theorem qcy {L:List Nat} {n:Nat} (h:Zero L n):mval (L.take n)=mval L:=by
 by_cases F:n<=L.length
 ·rw [qd2 L n F,qdv h];omega
 ·rw [qak (by omega)]
def Nrm (L:List Nat):Prop:=L.length=0\/L.getD (L.length-1) 0≠0
theorem Nrm.ge {L:List Nat} (h:Nrm L) (H:0<L.length):1000000000 ^ (L.length-1)<=mval L:=by
 have F:=h.resolve_left (by omega);have e:=qbY L (L.length-1);rw [show L.length-1+1=L.length by omega,qbh] at e;rw [e];exact qaj (Nat.le_mul_of_pos_right _ (qbe F)) (Nat.le_add_left _ _)
theorem Nrm.of_ge {L:List Nat} (H:Dig L) (h:L.length=0\/1000000000 ^ (L.length-1)<=mval L):Nrm L:=by
 rcases h with h | h
 ·exact qan h
 ·rcases qaU L.length with h0 | h0
  ·exact qan h0
  ·right
   intro I;have e:=qbY L (L.length-1);rw [show L.length-1+1=L.length by omega,qbh,I,Nat.mul_zero,qbs] at e;have F:=qfO (L.take (L.length-1)) (H.mem · <| qbL ·);rw [qax,qa9 (by omega)] at F;omega
theorem Nrm.snoc (L:List Nat) {d:Nat} (h:d≠0):Nrm (L++[d]):=by
 right
 rw [qaf,qaz,Nat.add_sub_cancel,qaa,qaq qN,qaG];exact h
theorem Nrm.zero {L:List Nat} (h:Nrm L):mval L=0↔L.length=0:=by
 constructor
 ·intro e;rcases qaU L.length with h0 | h0
  ·exact h0
  ·have:=h.ge h0;have:=Nat.pow_pos (n:=L.length-1) (show 0<1000000000 by decide);omega
 ·intro e;rw [qbI.1 e];rfl
theorem Nrm.len {L:List Nat} (h:Nrm L) {n:Nat} (H:mval L<1000000000 ^ n):L.length<=n:=by
 rcases qaU L.length with h0 | h0
 ·omega
 ·have F:=h.ge h0;have I:=(Nat.pow_lt_pow_iff_right (show 1<1000000000 by decide)).1 (qaL F H);omega
theorem qgn {P B x y z s c c' m o:Nat} (I:x+P*c=y+z) (F:s+B*c'=m+c+o):x+P*s+P*B*c'=y+P*m+(z+P*o):=by
 have h:=congrArg (P * ·) F;simp only [qaZ] at h;have H:P*B*c'=P*(B*c'):=by simp only [qaw]
 omega
theorem qfu {P B x y z s b F m o:Nat} (J:x+z=y+P*b) (H:s+b+o=m+B*F):x+P*s+(z+P*o)=y+P*m+P*B*F:=by
 have h:=congrArg (P * ·) H;simp only [qaZ] at h;have I:P*B*F=P*(B*F):=by simp only [qaw]
 omega
theorem qhe {A C B x p s c c' d e X Y Z: Nat} (J:Y+A*C*p=x+A*C*s) (O:x+A*C*c=X+A*d*Z) (F:s+B*c'=c+(p+d*e)):Y+A*(C*B)*c'=X+A*d*(Z+C*e):=by
 have h:=congrArg (A*C * ·) F;simp only [qaZ] at h ⊢;have H:A*(C*B)*c'=A*C*(B*c'):=by simp only [qaw]
 have I:A*d*(C*e)=A*C*(d*e):=by simp only [qaw,qbr]
 omega
theorem qh3 {A F E H x c d d1 X Y Z:Nat} (I:Y+E*0=x+E*c) (J:x+E*c=X*Z+A*d*Z):Y+H*0=(X+A*d)*Z+F*d1*mval []:=by
 simp only [mval,Nat.mul_zero,qbs,qaE] at *;omega
theorem qg4 {B R d r m M q t:Nat} (F:R*d+r=M) (O:d*q+t=r*B+m):(q+B*R)*d+t=m+B*M:=by
 subst F;simp only [qaZ,qaE];have H:B*R*d=B*(R*d):=by simp only [qaw]
 have I:q*d=d*q:=qat _ _;have J:r*B=B*r:=qat _ _;omega
structure PlusInv (m o:List Nat) (k:Nat) (L:List Nat) (c:Nat):Prop where
 len:L.length=k
 dig:Dig L
 carry:c<=1
 val:mval L+1000000000 ^ k*c=mval (m.take k)+mval (o.take k)
theorem PlusInv.start (m o:List Nat):PlusInv m o 0 [] 0:=⟨rfl,Dig.nil,by decide,by simp [mval]⟩
theorem PlusInv.step {m o L:List Nat} {k c s c':Nat} (h:PlusInv m o k L c) (H:s<1000000000) (F:c'<=1) (e:s+1000000000*c'=m.getD k 0+c+o.getD k 0):PlusInv m o (k+1) (L++[s]) c':=by
 refine⟨by rw [qaf,h.len];rfl,h.dig.snoc H,F,?_⟩;have I:=h.val;rw [qcW,h.len,qbY,qbY,qaB];exact qgn I e
theorem PlusInv.done {m o L:List Nat} {c:Nat} (h:PlusInv m o m.length L c) (F:o.length<=m.length):mval L+1000000000 ^ m.length*c=mval m+mval o:=by
 have:=h.val
 rwa [qak qN,qak F] at this
structure MinusInv (m o:List Nat) (k:Nat) (R:List Nat) (b:Nat):Prop where
 len:R.length=m.length
 dig:Dig R
 carry:b<=1
 val:mval (R.take k)+mval (o.take k)=mval (m.take k)+1000000000 ^ k*b
theorem MinusInv.start (m o:List Nat):MinusInv m o 0 (List.replicate m.length 0) 0:=⟨by simp,Dig.zeros _,by decide,by simp [mval]⟩
theorem MinusInv.step {m o R:List Nat} {k b s F:Nat} (h:MinusInv m o k R b) (I:k<m.length) (J:s<1000000000) (H:F<=1) (e:s+b+o.getD k 0=m.getD k 0+1000000000*F):MinusInv m o (k+1) (R.set k s) F:=by
 refine⟨by rw [qa6,h.len],h.dig.set J _,H,?_⟩;have O:=h.val;rw [qc3 (by rw [h.len];exact I),qbY,qbY,qaB];exact qfu O e
theorem MinusInv.done {m o R:List Nat} {b:Nat} (h:MinusInv m o m.length R b) (I:o.length<=m.length) (H:mval o<=mval m):mval R=mval m-mval o:=by
 have J:=h.val;rw [qak qN,qak I,qak (by rw [h.len];exact qae _)] at J;have F:=h.dig.lt;rw [h.len] at F;have O:=h.carry;rcases (show b=0\/b=1 by omega) with rfl | rfl
 ·omega
 ·omega
structure TimesInv (m o:List Nat) (i j:Nat) (P:List Nat) (c:Nat):Prop where
 len:P.length=m.length+o.length
 dig:Dig P
 carry:c<1000000000
 zero:Zero P (i+o.length)
 val:mval P+1000000000 ^ (i+j)*c=mval (m.take i)*mval o+1000000000 ^ i*m.getD i 0*mval (o.take j)
theorem TimesInv.start (m o:List Nat):TimesInv m o 0 0 (List.replicate (m.length+o.length) 0) 0:=⟨by simp,Dig.zeros _,by decide,Zero.zeros _ _,by simp [mval,qeQ]⟩
theorem TimesInv.step {m o P:List Nat} {i j c s c':Nat} (h:TimesInv m o i j P c) (J:i<m.length) (O:j<o.length) (F:s<1000000000) (I:c'<1000000000) (e:s+1000000000*c'=c+(P.getD (i+j) 0+m.getD i 0*o.getD j 0)):TimesInv m o i (j+1) (P.set (i+j) s) c':=by
 refine⟨by rw [qa6,h.len],h.dig.set F _,I,h.zero.set (by omega),?_⟩;have H:=h.val;have F:=qeF (L:=P) (k:=i+j) (d:=s) (by rw [h.len];omega);rw [qbY,Nat.pow_add,qaB];rw [Nat.pow_add] at F H;exact qhe F H e
theorem TimesInv.next {m o P:List Nat} {i c:Nat} (h:TimesInv m o i o.length P c) (I:i<m.length):TimesInv m o (i+1) 0 (P.set (i+o.length) c) 0:=by
 refine⟨by rw [qa6,h.len],h.dig.set h.carry _,by decide,?_,?_⟩
 ·have:=h.zero.set_succ (d:=c)
  rwa [show i+o.length+1=i+1+o.length by omega] at this
 have H:=h.val;have F:=qeF (L:=P) (k:=i+o.length) (d:=c) (by rw [h.len];omega);rw [h.zero _ qN] at F;rw [qak qN] at H;rw [qbY,List.take_zero];exact qh3 F H
theorem TimesInv.done {m o P:List Nat} {c:Nat} (h:TimesInv m o m.length 0 P c) (H:c=0):mval P=mval m*mval o:=by
 have F:=h.val;subst H;rw [qak qN] at F
 simpa [mval] using F
theorem qj1 {c p d e:Nat} (F:c<1000000000) (I:p<1000000000) (H:d<1000000000) (he:e<1000000000):c+(p+d*e)<1000000000000000000:=by
 have:d*e<=999999999*999999999:=Nat.mul_le_mul (by omega) (by omega);omega
structure ShortInv (m:List Nat) (d k:Nat) (R:List Nat) (r:Nat):Prop where
 len:R.length=m.length
 dig:Dig R
 rest:r<d
 val:mval (R.drop k)*d+r=mval (m.drop k)
theorem ShortInv.start (m:List Nat) {d:Nat} (F:0<d):ShortInv m d m.length (List.replicate m.length 0) 0:=⟨by simp,Dig.zeros _,F,by rw [qaT (by simp),qaT (by simp)];simp [mval]⟩
theorem ShortInv.step {m R:List Nat} {d k r:Nat} (h:ShortInv m d (k+1) R r) (H:k<m.length) (I:Dig m):ShortInv m d k (R.set k ((r*1000000000+m.getD k 0) / d)) ((r*1000000000+m.getD k 0) % d):=by
 have F:0<d:=by have:=h.rest;omega
 have J:(r*1000000000+m.getD k 0) / d<1000000000:=by
  rw [qbE F];have O:=I k;have U:=h.rest;have:(r+1)*1000000000<=d*1000000000:=qaH _ (by omega);omega
 refine⟨by rw [qa6,h.len],h.dig.set J _,qbD _ F,?_⟩;rw [qdj (by rw [h.len];exact H),qcV m k,<-h.val];have:=Nat.div_add_mod (r*1000000000+m.getD k 0) d;exact qg4 rfl this
theorem ShortInv.done {m R:List Nat} {d r:Nat} (h:ShortInv m d 0 R r):mval R=mval m / d/\r=mval m % d:=by
 have H:=h.val;simp only [List.drop_zero] at H;have F:=h.rest;rw [<-H]
 constructor
 ·rw [qat,Nat.mul_add_div (by omega),Nat.div_eq_of_lt F];rfl
 ·rw [qat,Nat.mul_add_mod,Nat.mod_eq_of_lt F]
theorem qgo (n:Nat):0<1000000000 ^ n:=Nat.pow_pos (by decide)
theorem sub_alg {P B R q V U b c r F c' t d x:Nat} (h1:R+q*V=U+P*(b+c)) (H:c+q*d=B*c'+t) (I:r+b+t=x+B*F):R+P*r+q*(V+P*d)=U+P*x+P*B*(F+c'):=by
 have J:=congrArg (P * ·) H;have O:=congrArg (P * ·) I;simp only [qaZ] at *;have Y:q*(P*d)=P*(q*d):=qbr _ _ _;have Z:P*B*F=P*(B*F):=qaw _ _ _;have e5:P*B*c'=P*(B*c'):=qaw _ _ _;omega
structure SubInv (u v:List Nat) (q k:Nat) (R:List Nat) (b c:Nat):Prop where
 len:R.length=u.length
 dig:Dig R
 borrow:b<=1
 carry:c<1000000000
 rest:∀j,k<=j->R.getD j 0=u.getD j 0
 val:mval (R.take k)+q*mval (v.take k)=mval (u.take k)+1000000000 ^ k*(b+c)
theorem SubInv.start {u v:List Nat} {q:Nat} (F:Dig u):SubInv u v q 0 u 0 0:=⟨rfl,F,by decide,by decide,fun _ _=>rfl,by simp [mval]⟩
theorem SubInv.step {u v R:List Nat} {q k b c r F c' t:Nat} (h:SubInv u v q k R b c) (U:k<u.length) (V:r<1000000000) (J:F<=1) (O:c'<1000000000) (H:c+q*v.getD k 0=1000000000*c'+t) (I:r+b+t=u.getD k 0+1000000000*F) :
  SubInv u v q (k+1) (R.set k r) F c':=by
 refine⟨by rw [qa6,h.len],h.dig.set V _,J,O,fun j Y=>by rw [getD_set_ne (by omega)];exact h.rest j (by omega),?_⟩;rw [qc3 (by rw [h.len];exact U),qbY,qbY,qaB];exact sub_alg h.val H I
theorem qnJ {c q d:Nat} (F:c<1000000000) (I:q<1000000000) (H:d<1000000000):c+q*d<1000000000000000000:=by
 have:q*d<=999999999*999999999:=Nat.mul_le_mul (by omega) (by omega);omega
structure BackInv (u v:List Nat) (k:Nat) (R:List Nat) (c:Nat):Prop where
 len:R.length=u.length
 dig:Dig R
 carry:c<=1
 rest:∀j,k<=j->R.getD j 0=u.getD j 0
 val:mval (R.take k)+1000000000 ^ k*c=mval (u.take k)+mval (v.take k)
theorem BackInv.start {u v:List Nat} (F:Dig u):BackInv u v 0 u 0:=⟨rfl,F,by decide,fun _ _=>rfl,by simp [mval]⟩
theorem BackInv.step {u v R:List Nat} {k c s c':Nat} (h:BackInv u v k R c) (H:k<u.length) (I:s<1000000000) (F:c'<=1) (e:s+1000000000*c'=u.getD k 0+c+v.getD k 0):BackInv u v (k+1) (R.set k s) c':=by
 refine⟨by rw [qa6,h.len],h.dig.set I _,F,fun j J=>by rw [getD_set_ne (by omega)];exact h.rest j (by omega),?_⟩;rw [qc3 (by rw [h.len];exact H),qbY,qbY,qaB];exact qgn h.val e
structure Reduced (u v:List Nat) (R:List Nat) (q:Nat):Prop where
 len:R.length=u.length
 dig:Dig R
 quot:q=mval u / mval v
 val:mval R=mval u % mval v
 top:Zero R v.length
theorem qgY {u v R:List Nat} {n:Nat} (hl:u.length=n+1) (Y:v.length=n) (U:R.length=u.length) (V:Dig R) {q:Nat} (_hv:0<mval v) (F:mval (R.take n)=mval u-q*mval v) (H:q*mval v<=mval u) (I:mval u<(q+1)*mval v) :
  Reduced u v (R.set n 0) q:=by
 have J:q=mval u / mval v:=((Nat.div_eq_of_lt_le H I)).symm;have O:mval (R.set n 0)=mval (R.take n):=by
  have:=qc3 (L:=R) (k:=n) (d:=0) (by omega)
  rwa [qak (by rw [qa6];omega),Nat.mul_zero,qbs] at this
 refine⟨by rw [qa6,U],V.set (by decide) _,J,?_,?_⟩
 ·rw [O,F,J,qat,Nat.sub_eq_of_eq_add];exact (Nat.mod_add_div _ _).symm
 ·intro j Z
  by_cases e:j=n
  ·rw [e,qcT (by omega)]
  ·exact qdA (by rw [qa6];omega)
theorem qh9 {u v R:List Nat} {n q b c:Nat} (h:SubInv u v q n R b c) (hl:u.length=n+1) (H:v.length=n) (Z:Dig v) (Y:0<mval v) (hq:mval u / mval v<=q) (aa:¬u.getD n 0<b+c):Reduced u v (R.set n 0) q:=by
 have F:=h.val;have e:mval u=mval (u.take n)+1000000000 ^ n*u.getD n 0:=by
  have:=qbY u n
  rwa [qak (by omega)] at this
 rw [qak (l:=v) (by omega)] at F;have I:=(h.dig.take n).lt;rw [qax,qa9 (by rw [h.len];omega)] at I;have U:=Z.lt;rw [H] at U;have V:mval u<(q+1)*mval v:=by
  have:=(qbE Y).1 (Nat.lt_succ_of_le hq);exact this
 obtain⟨s,hs⟩:∃s,u.getD n 0=b+c+s:=⟨u.getD n 0-(b+c),by omega⟩;rw [hs,qaZ] at e;have J:q*mval v<=mval u:=by omega
 have O:s=0:=by
  rcases qaU s with h0 | h0
  ·exact h0
  ·have:1000000000 ^ n*1<=1000000000 ^ n*s:=qaC _ h0;rw [qaE,qbu] at V;omega
 subst O;exact qgY hl H h.len h.dig Y (by omega) J V
theorem qi8 {u v R S:List Nat} {n q b c o:Nat} (h:SubInv u v q n R b c) (k:BackInv R v n S o) (hl:u.length=n+1) (I:v.length=n) (Z:Dig v) (Y:0<mval v) (hq:q<=mval u / mval v+1) (aa:u.getD n 0<b+c):Reduced u v (S.set n 0) (q-1):=by
 have F:=h.val;have H:=k.val;have e:mval u=mval (u.take n)+1000000000 ^ n*u.getD n 0:=by
  have:=qbY u n
  rwa [qak (by omega)] at this
 rw [qak (l:=v) (by omega)] at F H;have J:=(h.dig.take n).lt;have hSt:=(k.dig.take n).lt;have V:=Z.lt;rw [I] at V;rw [qax,qa9 (by rw [h.len];omega)] at J;rw [qax,qa9 (by rw [k.len,h.len];omega)] at hSt;obtain⟨s,hs⟩:∃s,b+c=u.getD n 0+1+s:=⟨b+c-(u.getD n 0+1),by omega⟩;rw [hs,qaZ,qaZ] at F;have O:mval u<q*mval v:=by omega
 have ae:0<q:=by
  rcases qaU q with h0 | h0
  ·subst h0;omega
  ·exact h0
 obtain⟨p,rfl⟩:∃p,q=p+1:=⟨q-1,by omega⟩;have U:p*mval v<=mval u:=(Nat.le_div_iff_mul_le Y).1 (by omega);have e2:(p+1)*mval v=p*mval v+mval v:=by rw [qaE,qbu]
 have h3:=k.carry;have ho:mval (S.take n)=mval u-p*mval v:=by
  rcases (show o=0\/o=1 by omega) with rfl | rfl
  ·rcases qaU s with h0 | h0
   ·subst h0;omega
   ·have:1000000000 ^ n*1<=1000000000 ^ n*s:=qaC _ h0;omega
  ·rcases qaU s with h0 | h0
   ·subst h0;omega
   ·have:1000000000 ^ n*1<=1000000000 ^ n*s:=qaC _ h0;omega
 rw [Nat.add_sub_cancel];exact qgY hl I (by rw [k.len,h.len]) k.dig Y ho U O
theorem div_alg {P V B Q q W R U:Nat} (I:Q*(P*B)*V+U=W) (J:P*(q*V)+R=U):(q+B*Q)*P*V+R=W:=by
 subst I J;have F:Q*(P*B)*V=B*Q*P*V:=by simp only [qat,qbr]
 have H:P*(q*V)=q*P*V:=by simp only [qaw,qbr]
 rw [qaE,qaE,F,H];omega
structure DivInv (w v:List Nat) (k:Nat) (q u:List Nat):Prop where
 lenu:u.length=w.length
 lenq:q.length=w.length-v.length
 digu:Dig u
 digq:Dig q
 zero:Zero u (k+v.length)
 val:mval (q.drop k)*1000000000 ^ k*mval v+mval u=mval w
 small:mval u<1000000000 ^ k*mval v
theorem DivInv.start {w v:List Nat} (H:Dig w) (I:mval w<1000000000 ^ (w.length-v.length)*mval v) (F:v.length<=w.length):DivInv w v (w.length-v.length) (List.replicate (w.length-v.length) 0) w :=
 ⟨rfl,by simp,H,Dig.zeros _,by rw [Nat.sub_add_cancel F];exact Zero.all w,by rw [qaT (by simp)];simp [mval],I⟩
theorem qkC {u:List Nat} {k n:Nat} (H:k+n<=u.length) (F:Zero u (k+n)):mval u=mval (u.take k)+1000000000 ^ k*mval ((u.drop k).take n):=by
 rw [<-qcy F,List.take_add,qcz,qax,qa9 (by omega)]
theorem DivInv.part {w v q u:List Nat} {k:Nat} (h:DivInv w v (k+1) q u) (I:k+1+v.length<=w.length):mval ((u.drop k).take (v.length+1))<1000000000*mval v/\((u.drop k).take (v.length+1)).length=v.length+1/\Dig ((u.drop k).take (v.length+1)):=by
 have J:=h.lenu;refine⟨?_,by rw [qax,qbd];omega,(h.digu.drop _).take _⟩;have F:=h.small;have H:=qkC (u:=u) (k:=k) (n:=v.length+1) (by omega) (by have:=h.zero;rwa [show k+1+v.length=k+(v.length+1) by omega] at this);rw [qaB,qaw] at F;exact Nat.lt_of_mul_lt_mul_left (a:=1000000000 ^ k) (by omega)
theorem DivInv.step {w v q u R:List Nat} {k x:Nat} (h:DivInv w v (k+1) q u) (hk:k+1+v.length<=w.length) (hv:0<mval v) (J:Reduced ((u.drop k).take (v.length+1)) v R x) :
  DivInv w v k (q.set k x) (u.take k++R++u.drop (k+(v.length+1))):=by
 have hl:=h.lenu;have Y:=h.lenq;obtain⟨p1,p2,p3⟩:=h.part hk;have H:=J.len;rw [p2] at H;have hx:x<1000000000:=by
  rw [J.quot,qbE hv];exact p1
 have ae:mval R<mval v:=by rw [J.val];exact qbD _ hv
 have F:(u.take k).length=k:=by rw [qax];omega
 have aa:=qkC (u:=u) (k:=k) (n:=v.length+1) (by omega) (by have:=h.zero;rwa [show k+1+v.length=k+(v.length+1) by omega] at this);have ah:mval (u.drop (k+(v.length+1)))=0:=qdv (by have:=h.zero;rwa [show k+1+v.length=k+(v.length+1) by omega] at this);have I:mval (u.take k++R++u.drop (k+(v.length+1)))=mval (u.take k)+1000000000 ^ k*mval R:=by
  rw [qcz,qcz,ah,F];omega
 have O:Dig (u.take k++R++u.drop (k+(v.length+1))):=((h.digu.take _).append J.dig).append (h.digu.drop _);have ag:=(h.digu.take k).lt;rw [F] at ag;have af:mval (u.take k++R++u.drop (k+(v.length+1)))<1000000000 ^ k*mval v:=by
  rw [I];have:1000000000 ^ k*(mval R+1)<=1000000000 ^ k*mval v:=qaC _ ae;rw [qaZ] at this;omega
 have V:(u.take k++R++u.drop (k+(v.length+1))).length=w.length:=by
  rw [qaf,qaf,F,H,qbd];omega
 refine⟨V,by rw [qa6,Y],O,h.digq.set hx _,?_,?_,af⟩
 ·intro j hj;have hz:=h.zero;rw [qaa,List.getElem?_append];split
  ·rename_i h1;rw [qaq (by omega),<-qaa];exact J.top _ (by omega)
  ·rename_i h1;rw [qaf,F,H] at h1;rw [qaf,F,H,List.getElem?_drop,<-qaa];exact hz _ (by omega)
 ·rw [qdj (by rw [Y];omega),I];have Z:=h.val;rw [qaB,aa] at Z;have U:=Nat.div_add_mod (mval ((u.drop k).take (v.length+1))) (mval v);rw [<-J.quot,<-J.val] at U;refine div_alg Z ?_;rw [<-U,qaZ,qat x];omega
theorem qhI {v:List Nat} {n:Nat} (U:2<=n) (I:v.length=n):mval v=(v.getD (n-1) 0*1000000000+v.getD (n-2) 0)*1000000000 ^ (n-2)+mval (v.take (n-2)):=by
 have F:=qbY v (n-1);have H:=qbY v (n-2);rw [show n-1+1=n by omega,<-I,qbh,I] at F;rw [show n-2+1=n-1 by omega] at H;rw [F,H,show n-1=(n-2)+1 by omega,qaB];generalize 1000000000 ^ (n-2)=P;have J:P*1000000000*v.getD (n-2+1) 0=v.getD (n-2+1) 0*1000000000*P:=by simp only [qat,qbr]
 have O:P*v.getD (n-2) 0=v.getD (n-2) 0*P:=qat _ _;rw [qaE,J,O];omega
theorem qkK {u:List Nat} {n:Nat} (I:2<=n) (H:u.length=n+1):mval u=((u.getD n 0*1000000000+u.getD (n-1) 0)*1000000000+u.getD (n-2) 0)*1000000000 ^ (n-2)+mval (u.take (n-2)):=by
 have F:=qbY u n;have h:=qhI (v:=u.take n) I (by rw [qax];omega);have g1:(u.take n).getD (n-1) 0=u.getD (n-1) 0:=by rw [qaa,List.getElem?_take_of_lt (by omega),<-qaa]
 have g2:(u.take n).getD (n-2) 0=u.getD (n-2) 0:=by rw [qaa,List.getElem?_take_of_lt (by omega),<-qaa]
 rw [<-H,qbh] at F;rw [g1,g2,List.take_take,qa9 (by omega)] at h;rw [F,h,show 1000000000 ^ n=1000000000 ^ (n-2)*(1000000000*1000000000) by rw [<-Nat.pow_two,<-Nat.pow_add];congr 1;omega];generalize 1000000000 ^ (n-2)=P;simp only [qaE];have:P*(1000000000*1000000000)*u.getD n 0=u.getD n 0*1000000000*1000000000*P:=by
  simp only [qat,qbr]
 omega
structure Est (u v:List Nat) (n:Nat):Prop where
 two:2<=n
 lu:u.length=n+1
 lv:v.length=n
 du:Dig u
 dv:Dig v
 half:1000000000<=2*v.getD (n-1) 0+1
 small:mval u<1000000000*mval v
namespace Est
variable {u v:List Nat} {n:Nat}
def top (v:List Nat) (n:Nat):Nat:=v.getD (n-1) 0
def head (u:List Nat) (n:Nat):Nat:=u.getD n 0*1000000000+u.getD (n-1) 0
theorem top_pos (h:Est u v n):0<top v n:=by have:=h.half;unfold top;omega
theorem v_pos (h:Est u v n):0<mval v:=by
 rw [qhI h.two h.lv];have F:=h.top_pos;have H:=qgo (n-2);have:0<(v.getD (n-1) 0*1000000000+v.getD (n-2) 0)*1000000000 ^ (n-2):=qbT (by unfold top at F;omega) H;omega
theorem low (h:Est u v n):mval (u.take (n-2))<1000000000 ^ (n-2)/\mval (v.take (n-2))<1000000000 ^ (n-2):=by
 have F:=(h.du.take (n-2)).lt;have H:=(h.dv.take (n-2)).lt;rw [qax,qa9 (by have:=h.lu;omega)] at F;rw [qax,qa9 (by have:=h.lv;omega)] at H;exact⟨F,H⟩
theorem head_lt (h:Est u v n):head u n<(top v n+1)*1000000000 :=
 est_head (qgo _) (by decide) (qkK h.two h.lu) (qhI h.two h.lv) (h.dv _) h.low.2 h.small
theorem quot_lt (h:Est u v n):mval u / mval v<1000000000:=(qbE h.v_pos).2 h.small
theorem first (h:Est u v n):mval u / mval v<=head u n / top v n/\head u n / top v n<=1000000002:=by
 refine⟨ql9 (qgo _) (qkK h.two h.lu) (qhI h.two h.lv) (h.du _) h.low.1 h.top_pos,?_⟩;have F:=h.head_lt;have H:=h.half;have:head u n / top v n<1000000003:=by
  rw [qbE h.top_pos];unfold top at *;omega
 omega
theorem down (h:Est u v n) {q r:Nat} (F:q*top v n+r=head u n) (I:mval u / mval v<=q) (H:1000000000<=q\/r*1000000000+u.getD (n-2) 0<q*v.getD (n-2) 0) :
  1<=q/\mval u / mval v<=q-1/\(q-1)*top v n+(r+top v n)=head u n:=by
 have J:mval u / mval v<q:=by
  rcases H with h1 | h1
  ·have:=h.quot_lt;omega
  ·exact est_test h.v_pos (qkK h.two h.lu) (qhI h.two h.lv) h.low.1 F h1
 clear H;generalize mval u / mval v=Q at *;obtain⟨p,rfl⟩:∃p,q=p+1:=⟨q-1,by omega⟩;rw [qaE,qbu] at F;refine⟨by omega,by omega,?_⟩;rw [Nat.add_sub_cancel];omega
theorem done (h:Est u v n) {q r:Nat} (H:q*top v n+r=head u n) (I:q<1000000000) (F:q*v.getD (n-2) 0<=r*1000000000+u.getD (n-2) 0):q<=mval u / mval v+1 :=
 est_done h.v_pos (qkK h.two h.lu) (qhI h.two h.lv) h.low.2 h.top_pos (by omega) H F
theorem broke (h:Est u v n) {q r:Nat} (O:q*top v n+r=head u n) (U:1000000000<=r):q<1000000000/\q<=mval u / mval v+1:=by
 have H:=h.head_lt;have F:q<1000000000:=by
  rcases qaQ q 1000000000 with h2 | h2
  ·exact h2
  ·have:1000000000*top v n<=q*top v n:=qaH _ h2;rw [qaE,qat (top v n)] at H;omega
 refine⟨F,h.done O F ?_⟩;have I:q*v.getD (n-2) 0<=q*1000000000:=qaC _ (qar (h.dv _));have J:q*1000000000<=r*1000000000:=qaH _ (qaj (qar F) U);exact qaj I (qaj J (Nat.le_add_right _ _))
end Est
theorem qhH {t s:Nat} (ht:0<t) (aa:t<1000000000) (F:1000000000 / (t+1)=s):0<s/\s<=500000000/\(t+1)*s<=1000000000/\1000000000<=2*(t*s)+1:=by
 have V:(t+1)*s<=1000000000:=by rw [<-F];exact Nat.mul_div_le _ _
 have U:0<s:=by rw [<-F];exact Nat.div_pos (by omega) (by omega)
 have Y:1000000000<(t+1)*(s+1):=by
  rw [<-F,qat];exact Nat.lt_mul_of_div_lt (Nat.lt_succ_self _) (by omega)
 have h3:s<=500000000:=by
  have:2*s<=(t+1)*s:=qaH _ (by omega);omega
 refine⟨U,h3,V,?_⟩
 by_cases hb:1000000000<=2*t+1
 ·have:t*1<=t*s:=qaC _ U;omega
 ·obtain⟨d,hd⟩:∃d,1000000000=2*t+1+d:=⟨1000000000-(2*t+1),by omega⟩;obtain⟨p,rfl⟩:∃p,t=p+1:=⟨t-1,by omega⟩;have h4:1000000000+1<=(p+1+1)*(s+1):=Y;have h5:(p+1)*(1000000000+1)<=(p+1)*((p+1+1)*(s+1)):=qaC _ h4;refine Nat.le_of_mul_le_mul_left (c:=p+1+1) ?_ (by omega);have e1:(p+1)*((p+1+1)*(s+1))=(p+1+1)*((p+1)*s)+(p+1+1)*(p+1):=by
   rw [qbr,qaZ (p+1),qbO,qaZ]
  have e2:(p+1+1)*(2*((p+1)*s)+1)=2*((p+1+1)*((p+1)*s))+(p+1+1):=by
   rw [qaZ,qbO,qbr]
  rw [e2];rw [e1] at h5;have H:(p+1+1)*(p+1)=p*p+3*p+2:=by
   simp only [qaE,qaZ,qbO,qbu];omega
  have e4:p*d+p*(2*p+3)=p*1000000000:=by rw [<-qaZ];congr 1;omega
  have I:p*(2*p+3)=2*(p*p)+3*p:=by rw [qaZ,qbr,qat p 3]
  have J:(p+1)*(1000000000+1)=p*(1000000000+1)+(1000000000+1):=by rw [qaE p 1,qbu]
  have O:p*(1000000000+1)=p*1000000000+p:=by rw [qaZ,qbO]
  rw [J,O,H] at h5;rw [I] at e4;generalize (p+1+1)*((p+1)*s)=Z at *;generalize p*p=pp at *;clear H I J O h4 Y V F;omega
theorem qhn {O V:List Nat} {n s:Nat} (hO:Dig O) (Y:O.length=n) (hn:2<=n) (nO:Nrm O) (hs:1000000000 / (O.getD (n-1) 0+1)=s) (hV:Dig V) (nV:Nrm V) (hv:mval V=mval O*s):V.length=n/\1000000000<=2*V.getD (n-1) 0+1:=by
 have ht:O.getD (n-1) 0≠0:=by rw [<-Y];exact nO.resolve_left (by omega)
 obtain⟨s0,s1,s2,s3⟩:=qhH (qbe ht) (hO (n-1)) hs;have e:=qbY O (n-1);rw [show n-1+1=n by omega,<-Y,qbh,Y] at e;have I:=(hO.take (n-1)).lt;rw [qax,qa9 (by omega)] at I;generalize O.getD (n-1) 0=t at *;have hP:1000000000 ^ n=1000000000 ^ (n-1)*1000000000:=by rw [<-qaB];congr 1;omega
 have ae:mval V<1000000000 ^ n:=by
  rw [hv,e,hP];have J:(mval (O.take (n-1))+1000000000 ^ (n-1)*t)*s<1000000000 ^ (n-1)*(t+1)*s:=by
   apply Nat.mul_lt_mul_of_pos_right ?_ s0;rw [qaZ];omega
  have h2:1000000000 ^ (n-1)*(t+1)*s<=1000000000 ^ (n-1)*1000000000:=by
   rw [qaw];exact qaC _ s2
  omega
 have U:1000000000 ^ (n-1)*(t*s)<=mval V:=by
  rw [hv,e,qaE,qaw];omega
 have Z:=nV.len ae;have aa:n<=V.length:=by
  rcases qaQ V.length n with h | h
  ·exfalso;have J:=hV.lt;have h2:1000000000 ^ V.length<=1000000000 ^ (n-1):=qa4 (by decide) (by omega);have h3:1000000000 ^ (n-1)*1<=1000000000 ^ (n-1)*(t*s):=qaC _ (qbT (qbe ht) s0);omega
  ·exact h
 have F:V.length=n:=by omega
 refine⟨F,?_⟩;have eV:=qbY V (n-1);rw [show n-1+1=n by omega,<-F,qbh,F] at eV;have H:=(hV.take (n-1)).lt;rw [qax,qa9 (by omega)] at H;have:t*s<=V.getD (n-1) 0:=by
  have J:1000000000 ^ (n-1)*(t*s)<1000000000 ^ (n-1)*(V.getD (n-1) 0+1):=by
   rw [qaZ,qbO];omega
  have:=Nat.lt_of_mul_lt_mul_left J;omega
 omega
theorem div_end {x y s r Q:Nat} (H:0<s) (h:Q*(y*s)+r=x*s) (O:r<y*s):Q=x / y/\r / s=x % y:=by
 have hy:0<y:=by
  rcases qaU y with h0 | h0
  ·subst h0;omega
  ·exact h0
 have F:s∣r:=by
  have J:s∣Q*(y*s):=⟨Q*y,by rw [<-qaw,qat]⟩;exact (Nat.dvd_add_right J).1 (by rw [h];exact⟨x,qat _ _⟩)
 obtain⟨z,rfl⟩:=F;rw [qaY _ H];have I:z<y:=by
  apply Nat.lt_of_mul_lt_mul_left (a:=s);rw [qat s y];exact O
 have e:Q*y+z=x:=by
  apply Nat.eq_of_mul_eq_mul_right H;rw [<-h,qaE,qaw,qat s z]
 rw [<-e]
 constructor
 ·rw [qat Q y,Nat.mul_add_div hy,Nat.div_eq_of_lt I];rfl
 ·rw [qat Q y,Nat.mul_add_mod,Nat.mod_eq_of_lt I]
theorem ql3 {M O V:List Nat} {F n s:Nat} (U:Dig M) (H:M.length=F) (Y:O.length=n) (hn:0<n) (nO:Nrm O) (hs:0<s) (Z:n<=F) (hv:mval V=mval O*s):mval M*s<1000000000 ^ (F+1-n)*mval V:=by
 have I:=nO.ge (by omega);rw [Y] at I;have J:=U.lt;rw [H] at J;have e:1000000000 ^ F=1000000000 ^ (F+1-n)*1000000000 ^ (n-1):=by rw [<-Nat.pow_add];congr 1;omega
 rw [hv,<-qaw];apply Nat.mul_lt_mul_of_pos_right ?_ hs;have:1000000000 ^ (F+1-n)*1000000000 ^ (n-1)<=1000000000 ^ (F+1-n)*mval O:=qaC _ I;omega
