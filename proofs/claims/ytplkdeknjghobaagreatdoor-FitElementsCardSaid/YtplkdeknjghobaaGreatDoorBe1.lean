import Derived.KernelRfl
import Derived.Test.YtplkdeknjghobaaGreatDoorBe0
set_option maxRecDepth 100000
set_option maxHeartbeats 0
namespace Go.Proofs.YtplkdeknjghobaaGreatDoor
def sumN:Nat->(Nat->Int)->Int
 | 0,_=>0
 | n+1,f=>sumN n f+f n
theorem qci {n:Nat} {f g:Nat->Int} (h:∀i,i<n->f i=g i):sumN n f=sumN n g:=by
 induction n with
 | zero=>rfl
 | succ n ih=>simp only [sumN];rw [ih fun i hi=>h i (by omega),h n (by omega)]
theorem qh6 (n:Nat) (f g:Nat->Int):sumN n (fun i=>f i+g i)=sumN n f+sumN n g:=by
 induction n with
 | zero=>rfl
 | succ n ih=>simp only [sumN,ih];omega
theorem qfI (n:Nat) (c:Int) (f:Nat->Int):sumN n (fun i=>c*f i)=c*sumN n f:=by
 induction n with
 | zero=>simp [sumN]
 | succ n ih=>simp only [sumN,ih,Int.mul_add]
theorem qhc (n:Nat) (f:Nat->Int) (h:∀i,i<n->f i=0):sumN n f=0:=by
 induction n with
 | zero=>rfl
 | succ n ih=>simp only [sumN];rw [ih fun i hi=>h i (by omega),h n (by omega)];rfl
theorem qki (n:Nat) (f:Nat->Int):sumN n (fun i=>- f i) = - sumN n f:=by
 induction n with
 | zero=>rfl
 | succ n ih=>simp only [sumN,ih];omega
theorem qi0 (n m:Nat) (f:Nat->Nat->Int):sumN n (fun i=>sumN m (fun j=>f i j))=sumN m (fun j=>sumN n (fun i=>f i j)):=by
 induction n with
 | zero =>
  simp only [sumN];exact (qhc m _ fun _ _=>rfl).symm
 | succ n ih=>simp only [sumN,ih];rw [<-qh6]
theorem qm2 (n:Nat) (f:Nat->Nat->Int) (h:∀i j,i<n->j<n->f i j = - f j i):sumN n (fun i=>sumN n (fun j=>f i j))=0:=by
 have h1:sumN n (fun i=>sumN n (fun j=>f i j))=sumN n (fun i=>sumN n (fun j=>- f j i)):=qci fun i hi=>qci fun j hj=>h i j hi hj
 have h2:sumN n (fun i=>sumN n (fun j=>- f j i)) = - sumN n (fun i=>sumN n (fun j=>f j i)):=by
  rw [<-qki];exact qci fun i _=>qki n _
 have h3:=qi0 n n f;omega
def skip (k c:Nat):Nat:=if c<k then c else c+1
theorem qeo {k c n:Nat} (hc:c<n):skip k c<n+1:=by unfold skip;split <;> omega
theorem skip_ne (k c:Nat):skip k c≠k:=by unfold skip;split <;> omega
theorem qm3 (n k:Nat) (hk:k<n+1) (f:Nat->Int):sumN n (fun c=>f (skip k c))+f k=sumN (n+1) f:=by
 induction n with
 | zero =>
  obtain rfl:k=0:=by omega
  simp [sumN]
 | succ n ih =>
  by_cases hkn:k=n+1
  ·subst hkn;simp only [sumN];have h1:sumN n (fun c=>f (skip (n+1) c))=sumN n f:=qci fun i hi=>by unfold skip;rw [if_pos (by omega)]
   have h2:f (skip (n+1) n)=f n:=by unfold skip;rw [if_pos (by omega)]
   rw [h1,h2]
  ·have:=ih (by omega);simp only [sumN] at this ⊢;have h2:f (skip k n)=f (n+1):=by unfold skip;rw [if_neg (by omega)]
   rw [h2];omega
def sg (j:Nat):Int:=if j % 2=0 then 1 else -1
def det:Nat->(Nat->Nat->Int)->Int
 | 0,_=>1
 | n+1,M=>sumN (n+1) fun j=>sg j*M 0 j*det n fun r c=>M (r+1) (skip j c)
theorem qet:∀(n:Nat) (M N:Nat->Nat->Int),(∀r c,r<n->c<n->M r c=N r c)->det n M=det n N
 | 0,_,_,_=>rfl
 | n+1,M,N,h=>by
  simp only [det];refine qci fun j hj=>?_
  rw [h 0 j (by omega) hj,qet n _ _ fun r c hr hc=>h (r+1) (skip j c) (by omega) (qeo hc)]
theorem qeh:∀(n:Nat) (M N K:Nat->Nat->Int) (k:Nat),k<n->(∀c,c<n->K k c=M k c+N k c)->(∀r c,r<n->c<n->r≠k->K r c=M r c/\K r c=N r c)->det n K=det n M+det n N
 | 0,_,_,_,_,h,_,_=>absurd h (by omega)
 | n+1,M,N,K,0,_,hk,ho=>by
  simp only [det];rw [<-qh6];refine qci fun j hj=>?_
  have e1:det n (fun r c=>K (r+1) (skip j c))=det n (fun r c=>M (r+1) (skip j c)):=qet n _ _ fun r c hr hc=>(ho (r+1) (skip j c) (by omega) (qeo hc) (by omega)).1
  have e2:det n (fun r c=>K (r+1) (skip j c))=det n (fun r c=>N (r+1) (skip j c)):=qet n _ _ fun r c hr hc=>(ho (r+1) (skip j c) (by omega) (qeo hc) (by omega)).2
  rw [<-e2,<-e1,hk j hj,Int.mul_add,Int.add_mul]
 | n+1,M,N,K,k+1,h,hk,ho=>by
  simp only [det];rw [<-qh6];refine qci fun j hj=>?_
  have e:=qeh n (fun r c=>M (r+1) (skip j c)) (fun r c=>N (r+1) (skip j c)) (fun r c=>K (r+1) (skip j c)) k (by omega) (fun c hc=>hk (skip j c) (qeo hc)) (fun r c hr hc hrk=>ho (r+1) (skip j c) (by omega) (qeo hc) (by omega));have h0:=ho 0 j (by omega) hj (by omega);rw [e,Int.mul_add];rw [<-h0.1];have:K 0 j=N 0 j:=h0.2;rw [this]
theorem qei:∀(n:Nat) (M K:Nat->Nat->Int) (k:Nat) (a:Int),k<n->(∀c,c<n->K k c=a*M k c)->(∀r c,r<n->c<n->r≠k->K r c=M r c)->det n K=a*det n M
 | 0,_,_,_,_,h,_,_=>absurd h (by omega)
 | n+1,M,K,0,a,_,hk,ho=>by
  simp only [det];rw [<-qfI];refine qci fun j hj=>?_
  rw [qet n _ _ fun r c hr hc=>ho (r+1) (skip j c) (by omega) (qeo hc) (by omega),hk j hj];rw [<-qbz,<-qbz,qbj (sg j) a,qbz a (sg j)]
 | n+1,M,K,k+1,a,h,hk,ho=>by
  simp only [det];rw [<-qfI];refine qci fun j hj=>?_
  have e:=qei n (fun r c=>M (r+1) (skip j c)) (fun r c=>K (r+1) (skip j c)) k a (by omega) (fun c hc=>hk (skip j c) (qeo hc)) (fun r c hr hc hrk=>ho (r+1) (skip j c) (by omega) (qeo hc) (by omega));rw [e,ho 0 j (by omega) hj (by omega),<-qbz,<-qbz,qbj (sg j*M 0 j) a,qbz]
def cof (j k:Nat):Nat:=if k<j then k else k-1
theorem cof_skip (j c:Nat):cof j (skip j c)=c:=by unfold cof skip;(repeat' split) <;> omega
theorem qk0 (j k x:Nat) (h:j≠k):skip j (skip (cof j k) x)=skip k (skip (cof k j) x):=by
 unfold cof skip
 by_cases h1:k<j
 ·have h2:¬j<k:=by omega
  simp only [h1,h2,if_true,if_false]
  (repeat' split) <;> omega
 ·have h2:j<k:=by omega
  simp only [h1,h2,if_true,if_false]
  (repeat' split) <;> omega
theorem sg_cof (j k:Nat) (h:j≠k):sg j*sg (cof j k) = - (sg k*sg (cof k j)):=by
 unfold sg cof
 by_cases h1:k<j
 ·have h2:¬j<k:=by omega
  simp only [h1,h2,if_true,if_false]
  (repeat' split) <;> first | omega | (exfalso;omega)
 ·have h2:j<k:=by omega
  simp only [h1,h2,if_true,if_false]
  (repeat' split) <;> first | omega | (exfalso;omega)
def two (n:Nat) (M:Nat->Nat->Int) (j k:Nat):Int:=if j=k then 0 else sg j*sg (cof j k)*(M 0 j*M 1 k)*det n fun r x=>M (r+2) (skip j (skip (cof j k) x))
theorem det_two (n:Nat) (M:Nat->Nat->Int):det (n+2) M=sumN (n+2) fun j=>sumN (n+2) fun k=>two n M j k:=by
 show sumN (n+2) (fun j=>sg j*M 0 j*det (n+1) fun r c=>M (r+1) (skip j c))=_
 refine qci fun j hj=>?_
 rw [<-qm3 (n+1) j hj];have h0:two n M j j=0:=by unfold two;rw [if_pos rfl]
 rw [h0,Int.add_zero]
 show sg j*M 0 j*sumN (n+1) (fun c=>sg c*M 1 (skip j c)*det n fun r x=>M (r+2) (skip j (skip c x)))=_
 rw [<-qfI];refine qci fun c hc=>?_
 unfold two;rw [if_neg (Ne.symm (skip_ne j c)),cof_skip];simp only [qbz,qbj,Int.mul_left_comm]
theorem qkp (n:Nat) (M:Nat->Nat->Int) (h:∀c,c<n+2->M 0 c=M 1 c):det (n+2) M=0:=by
 rw [det_two];refine qm2 (n+2) _ fun j k hj hk=>?_
 unfold two
 by_cases hjk:j=k
 ·rw [if_pos hjk,if_pos hjk.symm];rfl
 ·rw [if_neg hjk,if_neg (Ne.symm hjk),sg_cof j k hjk];have e:(fun r x=>M (r+2) (skip j (skip (cof j k) x)))=fun r x=>M (r+2) (skip k (skip (cof k j) x)):=by
   funext r x;rw [qk0 j k x hjk]
  rw [e,h j hj,<-h k hk,qbj (M 1 j) (M 0 k),qbs,qbs]
theorem qej:∀(n:Nat) (M:Nat->Nat->Int) (k:Nat),k+1<n->(∀c,c<n->M k c=M (k+1) c)->det n M=0
 | 0,_,_,h,_=>absurd h (by omega)
 | 1,_,_,h,_=>absurd h (by omega)
 | n+2,M,0,_,h=>qkp n M h
 | n+2,M,k+1,hk,h=>by
  show sumN (n+2) (fun j=>sg j*M 0 j*det (n+1) fun r c=>M (r+1) (skip j c))=0
  refine qhc _ _ fun j hj=>?_
  rw [qej (n+1) (fun r c=>M (r+1) (skip j c)) k (by omega) fun c hc=>h (skip j c) (qeo hc),qbM]
def R2 (M:Nat->Nat->Int) (k:Nat) (x y:Nat->Int):Nat->Nat->Int:=fun r c=>if r=k then x c else if r=k+1 then y c else M r c
theorem R2_left (n:Nat) (M:Nat->Nat->Int) (k:Nat) (hk:k+1<n) (x x' y:Nat->Int):det n (R2 M k (fun c=>x c+x' c) y)=det n (R2 M k x y)+det n (R2 M k x' y) :=
 qeh n _ _ _ k (by omega) (fun c _=>by simp [R2]) fun r c _ _ hr=>by simp [R2,hr]
theorem qjK (n:Nat) (M:Nat->Nat->Int) (k:Nat) (hk:k+1<n) (x y y':Nat->Int):det n (R2 M k x (fun c=>y c+y' c))=det n (R2 M k x y)+det n (R2 M k x y') :=
 qeh n _ _ _ (k+1) (by omega) (fun c _=>by simp [R2]) fun r c _ _ hr=>by simp [R2,hr]
theorem qi9 (n:Nat) (M:Nat->Nat->Int) (k:Nat) (hk:k+1<n) (x:Nat->Int):det n (R2 M k x x)=0 :=
 qej n _ k hk fun c _=>by simp [R2]
theorem R2_swap (n:Nat) (M:Nat->Nat->Int) (k:Nat) (hk:k+1<n) (x y:Nat->Int):det n (R2 M k x y) = - det n (R2 M k y x):=by
 have h:=qi9 n M k hk fun c=>x c+y c
 rw [R2_left n M k hk,qjK n M k hk,qjK n M k hk,qi9 n M k hk,qi9 n M k hk] at h;omega
theorem R2_self (M:Nat->Nat->Int) (k:Nat):R2 M k (M k) (M (k+1))=M:=by
 funext r c
 unfold R2;split
 ·rename_i h;rw [h]
 ·split
  ·rename_i h;rw [h]
  ·rfl
theorem qgo (n:Nat):∀(d:Nat) (M:Nat->Nat->Int) (i:Nat),i+d+1<n->(∀c,c<n->M i c=M (i+d+1) c)->det n M=0
 | 0,M,i,hi,h=>qej n M i hi h
 | d+1,M,i,hi,h=>by
  have hs:=R2_swap n M (i+d+1) (by omega) (M (i+d+1)) (M (i+d+1+1));rw [R2_self] at hs;rw [hs,qgo n d (R2 M (i+d+1) (M (i+d+1+1)) (M (i+d+1))) i (by omega) (fun c hc=>by
   have:¬i=i+d+1:=by omega
   have h2:¬i=i+d+1+1:=by omega
   simp only [R2,this,h2,if_false,if_true];exact h c hc)]
  rfl
theorem qje (n:Nat) (M K:Nat->Nat->Int) (i s:Nat) (a:Int) (hi:i<n) (hs:s<n) (his:i≠s) (hk:∀c,c<n->K i c=M i c+a*M s c) (ho:∀r c,r<n->c<n->r≠i->K r c=M r c):det n K=det n M:=by
 have h1:=qeh n M (fun r c=>if r=i then a*M s c else M r c) K i hi (fun c hc=>by simp [hk c hc]) fun r c hr hc hri=>by
  rw [ho r c hr hc hri];simp [hri]
 have h2:=qei n (fun r c=>if r=i then M s c else M r c) (fun r c=>if r=i then a*M s c else M r c) i a hi (fun c _=>by simp) fun r c _ _ hri=>by simp [hri]
 have h3:det n (fun r c=>if r=i then M s c else M r c)=0:=by
  rcases Nat.lt_or_gt_of_ne his with h | h
  ·obtain⟨d,rfl⟩:∃d,s=i+d+1:=⟨s-i-1,by omega⟩;refine qgo n d _ i (by omega) fun c _=>?_
   have:¬i+d+1=i:=by omega
   simp [this]
  ·obtain⟨d,rfl⟩:∃d,i=s+d+1:=⟨i-s-1,by omega⟩;refine qgo n d _ s (by omega) fun c _=>?_
   have:¬s=s+d+1:=by omega
   simp [this]
 rw [h1,h2,h3,qbM,Int.add_zero]
theorem qed (n:Nat) (f:Nat->Int):sumN (n+1) f=f 0+sumN n fun i=>f (i+1):=by
 induction n with
 | zero=>simp [sumN]
 | succ n ih =>
  have:sumN (n+1+1) f=sumN (n+1) f+f (n+1):=rfl;rw [this,ih];simp only [sumN];omega
theorem qmX (j:Nat):sg (j+1) = - sg j:=by
 unfold sg
 (repeat' split) <;> first | omega | (exfalso;omega)
theorem qdR (r:Nat):skip 0 r=r+1:=by unfold skip;rw [if_neg (by omega)]
theorem qe3 (j:Nat):skip (j+1) 0=0:=by unfold skip;rw [if_pos (by omega)]
theorem qe2 (j c:Nat):skip (j+1) (c+1)=skip j c+1:=by unfold skip;(repeat' split) <;> omega
theorem qjg:∀(n:Nat) (M:Nat->Nat->Int),det (n+1) M=sumN (n+1) fun i=>sg i*M i 0*det n fun r c=>M (skip i r) (c+1)
 | 0,M=>by
  show sumN 1 _=sumN 1 _
  exact qci fun i hi=>by
   obtain rfl:i=0:=by omega
   rfl
 | n+1,M=>by
  show sumN (n+1+1) (fun j=>sg j*M 0 j*det (n+1) fun r c=>M (r+1) (skip j c))=_
  rw [qed,qed (n+1)];have hadd:∀a b c d:Int,a=c->b=d->a+b=c+d:=fun a b c d h k=>by rw [h,k]
  refine hadd _ _ _ _ ?_ ?_
  ·have e0:(fun r c=>M (r+1) (skip 0 c))=fun r c=>M (skip 0 r) (c+1):=by
    funext r c
    rw [qdR,qdR]
   rw [e0]
  ·have e1:∀j,sg (j+1)*M 0 (j+1)*det (n+1) (fun r c=>M (r+1) (skip (j+1) c))=sumN (n+1) fun i=>- (sg j*sg i*(M 0 (j+1)*M (i+1) 0)*det n fun r c=>M (skip i r+1) (skip j c+1)):=by
    intro j;rw [qjg n,<-qfI];refine qci fun i _=>?_
    simp only [qe3,qe2,qmX];simp only [qbs,Int.mul_neg,qbz,Int.mul_left_comm]
   have e2:∀i,sg (i+1)*M (i+1) 0*det (n+1) (fun r c=>M (skip (i+1) r) (c+1))=sumN (n+1) fun j=>- (sg j*sg i*(M 0 (j+1)*M (i+1) 0)*det n fun r c=>M (skip i r+1) (skip j c+1)):=by
    intro i
    show _*sumN (n+1) (fun j=>sg j*M (skip (i+1) 0) (j+1)*det n fun r c=>M (skip (i+1) (r+1)) (skip j c+1))=_
    rw [<-qfI];refine qci fun j _=>?_
    simp only [qe3,qe2,qmX];simp only [qbs,Int.mul_neg,qbz,Int.mul_left_comm,qbj]
   rw [qci fun j _=>e1 j,qci fun i _=>e2 i,qi0]
theorem qjO:∀(n:Nat) (M:Nat->Nat->Int),det n (fun r c=>M c r)=det n M
 | 0,_=>rfl
 | n+1,M=>by
  rw [qjg n M]
  show sumN (n+1) (fun j=>sg j*M j 0*det n fun r c=>M (skip j c) (r+1))=_
  exact qci fun j _=>by rw [qjO n fun r c=>M (skip j r) (c+1)]
theorem qhN (n:Nat) (i:Nat) (hi:i<2):∀(m:Nat) (M K:Nat->Nat->Int) (L:Nat->Int),m+2<=n->(∀c,c<n->K i c=M i c+sumN m fun s=>L s*M (s+2) c)->(∀r c,r<n->c<n->r≠i->K r c=M r c)->det n K=det n M
 | 0,M,K,L,hm,hk,ho=>qet n K M fun r c hr hc=>by
  by_cases h:r=i
  ·subst h;rw [hk c hc];simp [sumN]
  ·exact ho r c hr hc h
 | m+1,M,K,L,hm,hk,ho=>by
  have h1:=qhN n i hi m M (fun r c=>if r=i then M i c+sumN m (fun s=>L s*M (s+2) c) else M r c) L (by omega) (fun c _=>by simp) fun r c _ _ hr=>by simp [hr]
  rw [<-h1];refine qje n _ K i (m+2) (L m) (by omega) (by omega) (by omega) (fun c hc=>?_) fun r c hr hc hri=>by rw [ho r c hr hc hri];simp [hri]
  have:¬m+2=i:=by omega
  rw [hk c hc];simp only [sumN,this,if_true,if_false];omega
def bord (k:Nat) (M:Nat->Nat->Int) (a c:Nat):Int:=det (k+1) fun r x=>M (if r=0 then a else r+1) (if x=0 then c else x+1)
def steps (k:Nat) (M:Nat->Nat->Int):Int:=det k fun r c=>M (r+2) (c+2)
def lam (k:Nat) (M:Nat->Nat->Int) (a s:Nat):Int:=sg (s+1)*det k fun r x=>M (if skip (s+1) r=0 then a else skip (s+1) r+1) (x+2)
theorem qik (k:Nat) (M:Nat->Nat->Int) (a c:Nat):bord k M a c=steps k M*M a c+sumN k fun s=>lam k M a s*M (s+2) c:=by
 unfold bord steps;rw [qjg,qed];have hadd:∀a b c d:Int,a=c->b=d->a+b=c+d:=fun a b c d h k=>by rw [h,k]
 refine hadd _ _ _ _ ?_ (qci fun s hs=>?_)
 ·have e:(fun r x=>M (if skip 0 r=0 then a else skip 0 r+1) (if x+1=0 then c else x+1+1))=fun r x=>M (r+2) (x+2):=by
   funext r x
   rw [qdR];simp
  rw [e];simp [sg,qbj]
 ·have h1:¬s+1=0:=by omega
  have e:(fun r x=>M (if skip (s+1) r=0 then a else skip (s+1) r+1) (if x+1=0 then c else x+1+1))=fun r x=>M (if skip (s+1) r=0 then a else skip (s+1) r+1) (x+2):=by
   funext r x;simp
  rw [e];unfold lam;simp only [h1,if_true,if_false,qbz,qbj]
theorem qil (k:Nat) (M:Nat->Nat->Int) (a c:Nat) (hc:c<k):bord k M a (c+2)=0:=by
 unfold bord;rw [<-qjO];refine qgo (k+1) c _ 0 (by omega) fun r _=>?_
 have:¬0+c+1=0:=by omega
 simp only [this,if_true,if_false];rw [show 0+c+1+1=c+2 by omega]
theorem qfH (n:Nat) (f:Nat->Int) (h:∀i,i<n->f (i+1)=0):sumN (n+1) f=f 0:=by
 rw [qed,qhc n _ h,Int.add_zero]
theorem sg0:sg 0=1:=rfl
theorem sg1:sg 1 = -1:=rfl
def cleared (k:Nat) (M:Nat->Nat->Int):Nat->Nat->Int:=fun r c=>if r=0 then bord k M 0 c else if r=1 then bord k M 1 c else M r c
theorem qjf (k:Nat) (M:Nat->Nat->Int):det (k+2) (cleared k M)=steps k M*(steps k M*det (k+2) M):=by
 have h1:det (k+2) (fun r c=>if r=0 then steps k M*M 0 c else M r c)=steps k M*det (k+2) M :=
  qei (k+2) M _ 0 (steps k M) (by omega) (fun c _=>by simp) fun r c _ _ hr=>by simp [hr]
 have h2:det (k+2) (fun r c=>if r=0 then bord k M 0 c else M r c)=det (k+2) (fun r c=>if r=0 then steps k M*M 0 c else M r c) :=
  qhN (k+2) 0 (by omega) k _ _ (lam k M 0) qN (fun c _=>by
   show bord k M 0 c=_
   rw [qik];simp) fun r c _ _ hr=>by simp [hr]
 have h3:det (k+2) (fun r c=>if r=1 then steps k M*M 1 c else if r=0 then bord k M 0 c else M r c)=steps k M*det (k+2) (fun r c=>if r=0 then bord k M 0 c else M r c) :=
  qei (k+2) _ _ 1 (steps k M) (by omega) (fun c _=>by simp) fun r c _ _ hr=>by simp [hr]
 have h4:det (k+2) (cleared k M)=det (k+2) (fun r c=>if r=1 then steps k M*M 1 c else if r=0 then bord k M 0 c else M r c) :=
  qhN (k+2) 1 (by omega) k _ _ (lam k M 1) qN (fun c _=>by
   show bord k M 1 c=_
   rw [qik];simp) fun r c _ _ hr=>by
    by_cases h0:r=0
    ·subst h0;simp [cleared]
    ·simp [cleared,hr,h0]
 rw [h4,h3,h2,h1]
theorem qio (k:Nat) (M:Nat->Nat->Int):det (k+2) (cleared k M)=(bord k M 0 0*bord k M 1 1-bord k M 0 1*bord k M 1 0)*steps k M:=by
 have z0:∀c,c<k->cleared k M 0 (c+2)=0:=fun c hc=>qil k M 0 c hc
 have z1:∀c,c<k->cleared k M 1 (c+2)=0:=fun c hc=>qil k M 1 c hc
 have a:det (k+1) (fun r c=>cleared k M (r+1) (skip 0 c))=bord k M 1 1*steps k M:=by
  show sumN (k+1) (fun j=>sg j*cleared k M 1 (skip 0 j)*det k fun r c=>cleared k M (r+2) (skip 0 (skip j c)))=_
  rw [qfH k _ fun i hi=>by
   simp only [qdR];rw [z1 i hi,qbM,Int.zero_mul]]
  have e:(fun r c=>cleared k M (r+2) (skip 0 (skip 0 c)))=fun r c=>M (r+2) (c+2):=by
   funext r c
   simp [qdR,cleared]
  rw [e,sg0,Int.one_mul]
  rfl
 have b:det (k+1) (fun r c=>cleared k M (r+1) (skip 1 c))=bord k M 1 0*steps k M:=by
  show sumN (k+1) (fun j=>sg j*cleared k M 1 (skip 1 j)*det k fun r c=>cleared k M (r+2) (skip 1 (skip j c)))=_
  have s1:∀c,skip 1 (c+1)=c+2:=fun c=>by unfold skip;rw [if_neg (by omega)]
  rw [qfH k _ fun i hi=>by
   rw [s1,z1 i hi,qbM,Int.zero_mul]]
  have e:(fun r c=>cleared k M (r+2) (skip 1 (skip 0 c)))=fun r c=>M (r+2) (c+2):=by
   funext r c
   rw [qdR,s1];simp [cleared]
  rw [e,sg0,Int.one_mul]
  rfl
 show sumN (k+1+1) (fun j=>sg j*cleared k M 0 j*det (k+1) fun r c=>cleared k M (r+1) (skip j c))=_
 rw [qed,qfH k _ fun i hi=>by rw [z0 i hi,qbM,Int.zero_mul]];simp only [qaO];rw [a,b,sg0,sg1,Int.one_mul]
 show bord k M 0 0*(bord k M 1 1*steps k M) + -1*bord k M 0 1*(bord k M 1 0*steps k M)=_
 rw [Int.sub_mul,qbs,Int.one_mul,qbs,qbz,qbz];omega
theorem qm6 (k:Nat) (M:Nat->Nat->Int) (hd:steps k M≠0):bord k M 0 0*bord k M 1 1-bord k M 0 1*bord k M 1 0=steps k M*det (k+2) M:=by
 have h:=(qio k M).symm.trans (qjf k M);rw [qbj _ (steps k M)] at h;exact Int.eq_of_mul_eq_mul_left hd h
def sumQ:Nat->(Nat->Rat)->Rat
 | 0,_=>0
 | n+1,f=>sumQ n f+f n
theorem qb0:∀{n:Nat} {f g:Nat->Rat},(∀i,i<n->f i=g i)->sumQ n f=sumQ n g
 | 0,_,_,_=>rfl
 | n+1,f,g,h=>by
  show sumQ n f+f n=sumQ n g+g n
  rw [qb0 fun i hi=>h i (by omega),h n (by omega)]
theorem qc9:∀(n:Nat) (f:Nat->Rat),(∀i,i<n->f i=0)->sumQ n f=0
 | 0,_,_=>rfl
 | n+1,f,h=>by
  show sumQ n f+f n=0
  rw [qc9 n f fun i hi=>h i (by omega),h n (by omega)];grind
theorem qeP:∀(n:Nat) (f g:Nat->Rat),sumQ n (fun i=>f i+g i)=sumQ n f+sumQ n g
 | 0,_,_=>by simp [sumQ];try grind
 | n+1,f,g=>by
  show sumQ n (fun i=>f i+g i)+(f n+g n)=sumQ n f+f n+(sumQ n g+g n)
  rw [qeP n f g];grind
theorem qcv:∀(n:Nat) (a:Rat) (f:Nat->Rat),sumQ n (fun i=>a*f i)=a*sumQ n f
 | 0,a,_=>by simp [sumQ]
 | n+1,a,f=>by
  show sumQ n (fun i=>a*f i)+a*f n=a*(sumQ n f+f n)
  rw [qcv n a f];grind
theorem qeE:∀(n m:Nat) (f:Nat->Nat->Rat),sumQ n (fun i=>sumQ m fun j=>f i j)=sumQ m fun j=>sumQ n fun i=>f i j
 | 0,m,f=>(qc9 m _ fun _ _=>rfl).symm
 | n+1,m,f=>by
  show sumQ n (fun i=>sumQ m fun j=>f i j)+sumQ m (fun j=>f n j)=sumQ m fun j=>(sumQ n (fun i=>f i j)+f n j)
  rw [qeE n m f,qeP]
theorem qdx:∀(n k:Nat) (f:Nat->Rat),k<n->(∀i,i<n->i≠k->f i=0)->sumQ n f=f k
 | 0,k,_,h,_=>absurd h (by omega)
 | n+1,k,f,h,h0=>by
  show sumQ n f+f n=f k
  by_cases e:k=n
  ·subst e;rw [qc9 k f fun i hi=>h0 i (by omega) (by omega)];grind
  ·rw [qdx n k f (by omega) fun i hi hik=>h0 i (by omega) hik,h0 n (by omega) (fun h=>e h.symm)];grind
theorem sumQ_two (n k l:Nat) (f:Nat->Rat) (hk:k<n) (hl:l<n) (hkl:k≠l) (h0:∀i,i<n->i≠k->i≠l->f i=0):sumQ n f=f k+f l:=by
 have e:sumQ n f=sumQ n (fun i=>(if i=k then f i else 0)+(if i=k then 0 else f i)):=qb0 fun i _=>by split <;> grind
 rw [e,qeP,qdx n k _ hk (fun i _ hik=>if_neg hik),qdx n l _ hl (fun i hi hil=>by
  by_cases h:i=k
  ·rw [if_pos h]
  ·rw [if_neg h];exact h0 i hi h hil),if_pos rfl,if_neg (fun h=>hkl h.symm)]
theorem qgm:∀(n m:Nat) (f:Nat->Rat),sumQ (n+m) f=sumQ n f+sumQ m fun i=>f (n+i)
 | n,0,f=>by simp [sumQ];try grind
 | n,m+1,f=>by
  show sumQ (n+m) f+f (n+m)=sumQ n f+(sumQ m (fun i=>f (n+i))+f (n+m))
  rw [qgm n m f];grind
def Span (R n:Nat) (A:Nat->Nat->Rat) (v:Nat->Rat):Prop:=∃c:Nat->Rat,∀j,j<n->v j=sumQ R fun i=>c i*A i j
theorem Span.row {R n:Nat} {A:Nat->Nat->Rat} {i:Nat} (hi:i<R):Span R n A (A i) :=
 ⟨fun k=>if k=i then 1 else 0,fun j _=>by
  rw [qdx R i _ hi (fun k _ hk=>by simp [hk])];simp⟩
theorem Span.congr {R n:Nat} {A B:Nat->Nat->Rat} {v u:Nat->Rat} (h:Span R n A v) (hA:∀i,i<R->∀j,j<n->A i j=B i j) (hv:∀j,j<n->v j=u j):Span R n B u:=by
 obtain⟨c,hc⟩:=h;exact⟨c,fun j hj=>by rw [<-hv j hj,hc j hj];exact qb0 fun i hi=>by rw [hA i hi j hj]⟩
theorem Span.comb {R n:Nat} {A:Nat->Nat->Rat} {u v:Nat->Rat} (hu:Span R n A u) (hv:Span R n A v) (a b:Rat):Span R n A (fun j=>a*u j+b*v j):=by
 obtain⟨c,hc⟩:=hu;obtain⟨d,hd⟩:=hv;refine⟨fun i=>a*c i+b*d i,fun j hj=>?_⟩
 show a*u j+b*v j=_
 rw [hc j hj,hd j hj,<-qcv,<-qcv,<-qeP];exact qb0 fun i _=>by grind
theorem Span.trans {R S n:Nat} {A B:Nat->Nat->Rat} {v:Nat->Rat} (h:Span R n A v) (hA:∀i,i<R->Span S n B (A i)):Span S n B v:=by
 obtain⟨c,hc⟩:=h;have:∀i,∃d:Nat->Rat,i<R->∀j,j<n->A i j=sumQ S fun k=>d k*B k j:=fun i=>by
  by_cases hi:i<R
  ·obtain⟨d,hd⟩:=hA i hi;exact⟨d,fun _=>hd⟩
  ·exact⟨fun _=>0,fun h=>absurd h hi⟩
 refine⟨fun k=>sumQ R fun i=>c i*(Classical.choose (this i)) k,fun j hj=>?_⟩;rw [hc j hj];have e1:sumQ S (fun k=>sumQ R (fun i=>c i*(Classical.choose (this i)) k)*B k j)=sumQ S fun k=>sumQ R fun i=>c i*((Classical.choose (this i)) k*B k j):=qb0 fun k _=>by
  rw [show sumQ R (fun i=>c i*(Classical.choose (this i)) k)*B k j=B k j*sumQ R (fun i=>c i*(Classical.choose (this i)) k) by grind,<-qcv];exact qb0 fun i _=>by grind
 rw [e1,<-qeE];refine qb0 fun i hi=>?_
 rw [qcv,Classical.choose_spec (this i) hi j hj]
def qdo (R S n:Nat) (A B:Nat->Nat->Rat):Prop:=(∀i,i<R->Span S n B (A i))/\∀i,i<S->Span R n A (B i)
theorem qdo.refl (R n:Nat) (A:Nat->Nat->Rat):qdo R R n A A:=⟨fun _ hi=>Span.row hi,fun _ hi=>Span.row hi⟩
theorem qdo.symm {R S n:Nat} {A B:Nat->Nat->Rat} (h:qdo R S n A B):qdo S R n B A:=⟨h.2,h.1⟩
theorem qdo.trans {R S T n:Nat} {A B C:Nat->Nat->Rat} (h:qdo R S n A B) (k:qdo S T n B C):qdo R T n A C :=
 ⟨fun i hi=>(h.1 i hi).trans k.1,fun i hi=>(k.2 i hi).trans h.2⟩
def sel {α:Type} (a:α) (P:Nat->α):Nat->α
 | 0=>a
 | s+1=>P s
def BR (k:Nat) (P:Nat->Nat->Int) (σ:Nat->Nat) (a:Nat->Int) (j:Nat):Int:=det (k+1) fun r x=>sel a P r (sel j σ x)
def DR (k:Nat) (P:Nat->Nat->Int) (σ:Nat->Nat):Int:=det k fun r x=>P r (σ x)
theorem qi6 (P:Nat->Nat->Int) (σ:Nat->Nat) (a:Nat->Int) (j:Nat):BR 0 P σ a j=a j:=by
 show sumN 1 _=_
 show 0+sg 0*a j*1=a j
 rw [sg0];omega
theorem qee {k:Nat} {P:Nat->Nat->Int} {σ:Nat->Nat} (hd:DR k P σ≠0) (a p:Nat->Int) (c j:Nat) :
  BR k P σ a j*BR k P σ p c-BR k P σ a c*BR k P σ p j=DR k P σ*BR (k+1) (sel p P) (sel c σ) a j:=by
 have h:=qm6 k (fun r x=>sel a (sel p P) r (sel j (sel c σ) x)) hd;have e00:bord k (fun r x=>sel a (sel p P) r (sel j (sel c σ) x)) 0 0=BR k P σ a j:=by
  unfold bord BR
  congr 1;funext r x
  cases r <;> cases x <;> rfl
 have e11:bord k (fun r x=>sel a (sel p P) r (sel j (sel c σ) x)) 1 1=BR k P σ p c:=by
  unfold bord BR
  congr 1;funext r x
  cases r <;> cases x <;> rfl
 have e01:bord k (fun r x=>sel a (sel p P) r (sel j (sel c σ) x)) 0 1=BR k P σ a c:=by
  unfold bord BR
  congr 1;funext r x
  cases r <;> cases x <;> rfl
 have e10:bord k (fun r x=>sel a (sel p P) r (sel j (sel c σ) x)) 1 0=BR k P σ p j:=by
  unfold bord BR
  congr 1;funext r x
  cases r <;> cases x <;> rfl
 rw [e00,e11,e01,e10] at h;exact h
theorem qi7 (k:Nat) (P:Nat->Nat->Int) (σ:Nat->Nat) (p:Nat->Int) (c:Nat):DR (k+1) (sel p P) (sel c σ)=BR k P σ p c:=rfl
theorem qhH (k:Nat) (P:Nat->Nat->Int) (σ:Nat->Nat) (a:Nat->Int) (j:Nat) (h:∀s,s<k->a (σ s)=0):BR k P σ a j=DR k P σ*a j:=by
 show sumN (k+1) (fun x=>sg x*sel a P 0 (sel j σ x)*det k fun r c=>sel a P (r+1) (sel j σ (skip x c)))=_
 rw [qfH k _ fun i hi=>by
  show sg (i+1)*a (σ i)*_=0
  rw [h i hi,qbM,Int.zero_mul]]
 have e:(fun r c=>sel a P (r+1) (sel j σ (skip 0 c)))=fun r x=>P r (σ x):=by
  funext r c;rw [qdR];rfl
 rw [e,sg0,Int.one_mul,qbj];rfl
abbrev castM (M:Nat->Nat->Int):Nat->Nat->Rat:=fun i j=>(M i j:Rat)
def qb8 (f:Nat->Bool) (M:Nat->Nat->Int) (p c:Nat) (D:Int):Nat->Nat->Int:=fun i=>if f i=true/\i≠p then fun j=>(M p c*M i j-M i c*M p j).tdiv D else M i
theorem qiX {f:Nat->Bool} {R n p c:Nat} {M:Nat->Nat->Int} {D:Int} (hp:p<R) (hD:D≠0) (hc:M p c≠0) (hx:∀i,i<R->f i=true->i≠p->∀j,j<n->D∣M p c*M i j-M i c*M p j):qdo R R n (castM M) (castM (qb8 f M p c D)):=by
 have hD':(D:Rat)≠0:=by exact_mod_cast hD
 have hc':(M p c:Rat)≠0:=by exact_mod_cast hc
 have hrow:∀i,i<R->f i=true->i≠p->∀j,j<n->(D:Rat)*((qb8 f M p c D i j:Int):Rat)=M p c*M i j-M i c*M p j:=by
  intro i hi hf hip j hj;have e:qb8 f M p c D i j=(M p c*M i j-M i c*M p j).tdiv D:=by unfold qb8;rw [if_pos ⟨hf,hip⟩]
  have:=Int.mul_tdiv_cancel' (hx i hi hf hip j hj);rw [e]
  exact_mod_cast this
 have hother:∀i,¬(f i=true/\i≠p)->qb8 f M p c D i=M i:=fun i h=>by unfold qb8;rw [if_neg h]
 have hself:qb8 f M p c D p=M p:=hother p (fun h=>h.2 rfl);refine⟨fun i hi=>?_,fun i hi=>?_⟩
 ·by_cases h:f i=true/\i≠p
  ·refine Span.congr (Span.comb (Span.row (A:=castM (qb8 f M p c D)) hi) (Span.row (A:=castM (qb8 f M p c D)) hp) ((D:Rat) / M p c) ((M i c:Rat) / M p c)) (fun _ _ _ _=>rfl) fun j hj=>?_
   have:=hrow i hi h.1 h.2 j hj
   show (D:Rat) / M p c*((qb8 f M p c D i j:Int):Rat)+(M i c:Rat) / M p c*((qb8 f M p c D p j:Int):Rat)=(M i j:Rat)
   rw [hself]
   grind
  ·have:=Span.row (R:=R) (n:=n) (A:=castM (qb8 f M p c D)) (i:=i) hi;exact Span.congr this (fun _ _ _ _=>rfl) fun j _=>by show ((qb8 f M p c D i j:Int):Rat)=_;rw [hother i h]
 ·by_cases h:f i=true/\i≠p
  ·refine Span.congr (Span.comb (Span.row (A:=castM M) hi) (Span.row (A:=castM M) hp) ((M p c:Rat) / D) (-(M i c:Rat) / D)) (fun _ _ _ _=>rfl) fun j hj=>?_
   have:=hrow i hi h.1 h.2 j hj
   show (M p c:Rat) / D*(M i j:Rat) + -(M i c:Rat) / D*(M p j:Rat)=((qb8 f M p c D i j:Int):Rat)
   grind
  ·have:=Span.row (R:=R) (n:=n) (A:=castM M) (i:=i) hi;exact Span.congr this (fun _ _ _ _=>rfl) fun j _=>by show (M i j:Rat)=((qb8 f M p c D i j:Int):Rat);rw [hother i h]
def qcl {α:Type} (M:Nat->α) (k a:Nat):Nat->α:=fun j=>if j=k then M a else if j=a then M k else M j
theorem qiY {R n k a:Nat} {M:Nat->Nat->Int} (hk:k<R) (ha:a<R):qdo R R n (castM M) (castM (qcl M k a)):=by
 have row:∀i l,i<R->qcl M k a i=M l->Span R n (castM (qcl M k a)) (castM M l):=fun i l hi h =>
  Span.congr (Span.row (R:=R) (n:=n) (A:=castM (qcl M k a)) (i:=i) hi) (fun _ _ _ _=>rfl) fun j _=>by show ((qcl M k a i j:Int):Rat)=_;rw [h]
 have row':∀i l,l<R->qcl M k a i=M l->Span R n (castM M) (castM (qcl M k a) i):=fun i l hl h =>
  Span.congr (Span.row (R:=R) (n:=n) (A:=castM M) (i:=l) hl) (fun _ _ _ _=>rfl) fun j _=>by show (M l j:Rat)=((qcl M k a i j:Int):Rat);rw [h]
 refine⟨fun i hi=>?_,fun i hi=>?_⟩
 ·by_cases e:i=k
  ·subst e
   by_cases e2:a=i
   ·subst e2;exact row a a ha (by unfold qcl;rw [if_pos rfl])
   ·exact row a i ha (by unfold qcl;rw [if_neg e2,if_pos rfl])
  ·by_cases e2:i=a
   ·subst e2;exact row k i hk (by unfold qcl;rw [if_pos rfl])
   ·exact row i i hi (by unfold qcl;rw [if_neg e,if_neg e2])
 ·by_cases e:i=k
  ·exact row' i a ha (by unfold qcl;rw [if_pos e])
  ·by_cases e2:i=a
   ·exact row' i k hk (by unfold qcl;rw [if_neg e,if_pos e2])
   ·exact row' i i hi (by unfold qcl;rw [if_neg e,if_neg e2])
theorem qm5 {α:Type} {M:Nat->α} {k a i:Nat} (hi:i<k) (ha:k<=a):qcl M k a i=M i:=by unfold qcl;rw [if_neg (by omega),if_neg (by omega)]
structure ElimSt (R n k:Nat) (D:Int) (M A:Nat->Nat->Int):Prop where
 span:qdo R R n (castM M) (castM A)
 dets:∃(P:Nat->Nat->Int) (σ:Nat->Nat) (a:Nat->Nat->Int),DR k P σ=D/\(∀s,s<k->σ s<k)/\(∀i,k<=i->i<R->∀j,j<n->M i j=BR k P σ (a i) j) /\
  ∀i,i<k->∀j,j<n->M i j=D*(if j=i then 1 else 0)-BR k P σ (fun x=>if x=i then 1 else 0) j
 diag:∀i,i<R->∀c,c<k->M i c=if i=c then D else 0
 nz:D≠0
theorem ElimSt.start (R n:Nat) (A:Nat->Nat->Int):ElimSt R n 0 1 A A :=
 ⟨qdo.refl _ _ _,⟨fun _ _=>0,fun _=>0,A,rfl,fun s hs=>absurd hs (by omega),fun i _ _ j _=>(qi6 _ _ _ _).symm,fun i hi=>absurd hi (by omega)⟩,fun _ _ j hj=>absurd hj (by omega),by decide⟩
theorem ElimSt.swap {R n k a:Nat} {D:Int} {M A:Nat->Nat->Int} (h:ElimSt R n k D M A) (hk:k<=a) (ha:a<R):ElimSt R n k D (qcl M k a) A:=by
 have kR:k<R:=by omega
 refine⟨(qiY kR ha).symm.trans h.span,?_,?_,h.nz⟩
 ·obtain⟨P,σ,b,hD,hσ,hb,hl⟩:=h.dets;refine⟨P,σ,qcl b k a,hD,hσ,fun i hi hR j hj=>?_,fun i hi j hj=>by rw [qm5 hi hk];exact hl i hi j hj⟩;unfold qcl
  by_cases e:i=k
  ·rw [if_pos e,if_pos e];exact hb a hk ha j hj
  ·by_cases e2:i=a
   ·rw [if_neg e,if_neg e,if_pos e2,if_pos e2];exact hb k qN kR j hj
   ·rw [if_neg e,if_neg e,if_neg e2,if_neg e2];exact hb i hi hR j hj
 ·intro i hi c hc;have hd:=h.diag i hi c hc;unfold qcl
  by_cases e:i=k
  ·rw [if_pos e,h.diag a ha c hc,if_neg (by omega),if_neg (by omega)]
  ·by_cases e2:i=a
   ·rw [if_neg e,if_pos e2,h.diag k kR c hc,if_neg (by omega),if_neg (by omega)]
   ·rw [if_neg e,if_neg e2,hd]
theorem ElimSt.next {R n k:Nat} {D:Int} {M A:Nat->Nat->Int} (h:ElimSt R n k D M A) (hk:k<R) (hc:k<n) (h0:M k k≠0):ElimSt R n (k+1) (M k k) (qb8 (fun _=>true) M k k D) A:=by
 obtain⟨P,σ,b,hD,hσ,hb,hl⟩:=h.dets;have hnz:DR k P σ≠0:=by rw [hD];exact h.nz
 have hp:∀j,j<n->M k j=BR k P σ (b k) j:=hb k qN hk;have hrow:∀i,i≠k->∀j,qb8 (fun _=>true) M k k D i j=(M k k*M i j-M i k*M k j).tdiv D:=fun i hi j=>by
  unfold qb8;rw [if_pos ⟨rfl,hi⟩]
 have hself:qb8 (fun _=>true) M k k D k=M k:=by unfold qb8;rw [if_neg (fun h=>h.2 rfl)]
 have hhi:∀i,k<i->i<R->∀j,j<n->M k k*M i j-M i k*M k j=D*BR (k+1) (sel (b k) P) (sel k σ) (b i) j:=fun i hi hR j hj=>by
  have:=qee hnz (b i) (b k) k j;rw [hD,<-hb i (by omega) hR j hj,<-hp k hc,<-hb i (by omega) hR k hc,<-hp j hj] at this;rw [<-this,qbj (M i j)]
 have hlo:∀i,i<k->∀j,j<n->M k k*M i j-M i k*M k j=D*(M k k*(if j=i then 1 else 0)-BR (k+1) (sel (b k) P) (sel k σ) (fun x=>if x=i then 1 else 0) j):=fun i hi j hj=>by
  have:=qee hnz (fun x=>if x=i then 1 else 0) (b k) k j;rw [hD,<-hp k hc,<-hp j hj] at this;rw [hl i hi j hj,hl i hi k hc,if_neg (by omega:¬k=i),Int.mul_sub D,<-this];generalize BR k P σ (fun x=>if x=i then 1 else 0) j=X;generalize BR k P σ (fun x=>if x=i then 1 else 0) k=Y;generalize (if j=i then (1:Int) else 0)=E;rw [qbM,Int.zero_sub,qbs,Int.sub_neg,Int.mul_sub,qbj X,Int.mul_left_comm (M k k) D];omega
 have hkk:∀j,j<n->M k j=M k k*(if j=k then 1 else 0)-BR (k+1) (sel (b k) P) (sel k σ) (fun x=>if x=k then 1 else 0) j:=fun j hj=>by
  have:=qee hnz (fun x=>if x=k then 1 else 0) (b k) k j;rw [hD,<-hp k hc,<-hp j hj,qhH k P σ _ j (fun s hs=>if_neg (by have:=hσ s hs;omega)),qhH k P σ _ k (fun s hs=>if_neg (by have:=hσ s hs;omega)),hD,if_pos rfl] at this;have e:D*(M k k*(if j=k then 1 else 0)-M k j)=D*BR (k+1) (sel (b k) P) (sel k σ) (fun x=>if x=k then 1 else 0) j:=by
   rw [<-this,Int.mul_sub,Int.mul_one];generalize (if j=k then (1:Int) else 0)=E;rw [qbz,qbj E]
  have:=Int.eq_of_mul_eq_mul_left h.nz e;omega
 refine⟨(qiX hk h.nz h0 fun i hi _ hik j hj=>?_).symm.trans h.span,⟨sel (b k) P,sel k σ,b,by rw [qi7];exact (hp k hc).symm,?_,fun i hi hR j hj=>?_,fun i hi j hj=>?_⟩,fun i hi c hcc=>?_,h0⟩
 ·rcases Nat.lt_or_gt_of_ne hik with e | e
  ·exact⟨_,hlo i e j hj⟩
  ·exact⟨_,hhi i e hi j hj⟩
 ·intro s hs;cases s with
  | zero=>show k<k+1;omega
  | succ s=>show σ s<k+1;have:=hσ s (by omega);omega
 ·rw [hrow i (by omega) j,hhi i (by omega) hR j hj,Int.mul_tdiv_cancel_left _ h.nz]
 ·by_cases e:i=k
  ·subst e;rw [hself];exact hkk j hj
  ·rw [hrow i e j,hlo i (by omega) j hj,Int.mul_tdiv_cancel_left _ h.nz]
 ·by_cases e:i=k
  ·subst e;rw [hself]
   by_cases e2:i=c
   ·rw [if_pos e2,e2]
   ·rw [if_neg e2,h.diag i hi c (by omega),if_neg e2]
  ·rw [hrow i e c]
   by_cases e2:c=k
   ·subst e2;rw [if_neg e,qbj,Int.sub_self];exact Int.zero_tdiv _
   ·rw [h.diag i hi c (by omega),h.diag k hk c (by omega),if_neg (fun h:k=c=>e2 h.symm),qbM,Int.sub_zero]
    by_cases e3:i=c
    ·rw [if_pos e3,if_pos e3,Int.mul_tdiv_cancel _ h.nz]
    ·rw [if_neg e3,if_neg e3,qbM];exact Int.zero_tdiv _
def Sing (R:Nat) (A:Nat->Nat->Rat):Prop:=∃y:Nat->Rat,(∃j,j<R/\y j≠0)/\∀i,i<R->sumQ R (fun j=>A i j*y j)=0
def qc6 (R:Nat) (A:Nat->Nat->Rat) (b x:Nat->Rat):Prop:=∀i,i<R->sumQ R (fun j=>A i j*x j)=b i
theorem qc6.uniq {R:Nat} {A:Nat->Nat->Rat} {b x y:Nat->Rat} (h:¬Sing R A) (hx:qc6 R A b x) (hy:qc6 R A b y):∀i,i<R->x i=y i:=by
 intro i hi;apply Classical.byContradiction;intro hne;refine h ⟨fun j=>x j-y j,⟨i,hi,fun h=>hne (by grind)⟩,fun k hk=>?_⟩;have e:sumQ R (fun j=>A k j*(x j-y j))=sumQ R (fun j=>A k j*x j)+(-1)*sumQ R (fun j=>A k j*y j):=by
  rw [<-qcv,<-qeP];exact qb0 fun j _=>by grind
 rw [e,hx k hk,hy k hk];grind
theorem Sing.congr {R:Nat} {A B:Nat->Nat->Rat} (h:Sing R A) (e:∀i,i<R->∀j,j<R->A i j=B i j):Sing R B:=by
 obtain⟨y,hy,h0⟩:=h;exact⟨y,hy,fun i hi=>by rw [<-h0 i hi];exact qb0 fun j hj=>by rw [e i hi j hj]⟩
theorem qc6.congr {R:Nat} {A B:Nat->Nat->Rat} {b c x y:Nat->Rat} (h:qc6 R A b x) (e:∀i,i<R->∀j,j<R->A i j=B i j) (eb:∀i,i<R->b i=c i) (ex:∀i,i<R->x i=y i):qc6 R B c y:=fun i hi=>by
 rw [<-eb i hi,<-h i hi];exact qb0 fun j hj=>by rw [e i hi j hj,ex j hj]
theorem Span.kill {R n:Nat} {A:Nat->Nat->Rat} {v y:Nat->Rat} (h:Span R n A v) (h0:∀i,i<R->sumQ n (fun j=>A i j*y j)=0):sumQ n (fun j=>v j*y j)=0:=by
 obtain⟨c,hc⟩:=h;have e:sumQ n (fun j=>v j*y j)=sumQ n fun j=>sumQ R fun i=>c i*(A i j*y j):=qb0 fun j hj=>by
  rw [hc j hj,show sumQ R (fun i=>c i*A i j)*y j=y j*sumQ R (fun i=>c i*A i j) by grind,<-qcv];exact qb0 fun i _=>by grind
 rw [e,qeE];refine qc9 _ _ fun i hi=>?_
 rw [qcv,h0 i hi];grind
theorem qhd (n:Nat) (f x:Nat->Rat) (a:Rat):sumQ (n+1) (fun j=>f j*(if j<n then x j else a))=sumQ n (fun j=>f j*x j)+f n*a:=by
 show sumQ n _+f n*(if n<n then x n else a)=_
 rw [if_neg (Nat.lt_irrefl n)]
 congr 1
 exact qb0 fun j hj=>by rw [if_pos hj]
theorem qly {R n k:Nat} {D:Int} {M A:Nat->Nat->Int} (h:ElimSt R n k D M A) (hn:R<=n) (hk:k<R) (h0:∀i,k<=i->i<R->M i k=0):Sing R (castM A):=by
 have hD:(D:Rat)≠0:=by exact_mod_cast h.nz
 refine⟨fun j=>if j<k then -(M j k:Rat) else if j=k then (D:Rat) else 0,⟨k,hk,by simp only [Nat.lt_irrefl,if_false,if_true];exact hD⟩,?_⟩;have hM:∀i,i<R->sumQ n (fun j=>castM M i j*(if j<k then -(M j k:Rat) else if j=k then (D:Rat) else 0))=0:=by
  intro i hi
  by_cases hik:i<k
  ·rw [sumQ_two n i k _ (by omega) (by omega) (by omega) fun j hj hji hjk=>by
    by_cases e:j<k
    ·show (M i j:Rat)*_=0
     rw [h.diag i hi j e,if_neg (fun h=>hji h.symm)];simp
    ·rw [if_neg e,if_neg hjk];grind]
   rw [if_pos hik,if_neg (Nat.lt_irrefl k),if_pos rfl]
   show (M i i:Rat)*_+(M i k:Rat)*_=0
   rw [h.diag i hi i hik,if_pos rfl];grind
  ·refine qc9 _ _ fun j hj=>?_
   by_cases e:j<k
   ·show (M i j:Rat)*_=0
    rw [h.diag i hi j e,if_neg (by omega)];simp
   ·by_cases e2:j=k
    ·show (M i j:Rat)*_=0
     rw [e2,h0 i (by omega) hi];simp
    ·rw [if_neg e,if_neg e2];grind
 intro i hi;have hkill:=(h.span.2 i hi).kill hM;have e:sumQ n (fun j=>castM A i j*(if j<k then -(M j k:Rat) else if j=k then (D:Rat) else 0))=sumQ R (fun j=>castM A i j*(if j<k then -(M j k:Rat) else if j=k then (D:Rat) else 0)):=by
  obtain⟨m,rfl⟩:∃m,n=R+m:=⟨n-R,by omega⟩;rw [qgm,qc9 m _ fun j _=>by rw [if_neg (by omega),if_neg (by omega)];grind]
  grind
 rw [e] at hkill;exact hkill
theorem qgp {R:Nat} {z:Int} {M A:Nat->Nat->Int} (h:ElimSt R (R+1) R z M A):qc6 R (castM A) (fun i=>castM A i R) (fun i=>(M i R:Rat) / z)/\¬Sing R (castM A):=by
 have hz:(z:Rat)≠0:=by exact_mod_cast h.nz
 have hM:∀(x:Nat->Rat) (a:Rat) i,i<R->sumQ (R+1) (fun j=>castM M i j*(if j<R then x j else a))=z*x i+M i R*a:=by
  intro x a i hi;rw [qhd,qdx R i _ hi fun j hj hji=>by show (M i j:Rat)*_=0;rw [h.diag i hi j hj,if_neg (fun h=>hji h.symm)];simp]
  show (M i i:Rat)*x i+(M i R:Rat)*a=_
  rw [h.diag i hi i hi,if_pos rfl]
 refine⟨fun i hi=>?_,?_⟩
 ·have:=(h.span.2 i hi).kill (y:=fun j=>if j<R then (M j R:Rat) / z else -1) fun i hi=>by rw [hM _ _ i hi];grind
  rw [qhd] at this
  show sumQ R _=castM A i R
  grind
 ·rintro ⟨y,⟨j,hj,hy⟩,h0⟩;have:=(h.span.1 j hj).kill (y:=fun j=>if j<R then y j else 0) fun i hi=>by rw [qhd,h0 i hi];grind
  rw [hM _ _ j hj] at this;apply hy;have:(z:Rat)*y j=0:=by grind
  rcases Rat.mul_eq_zero.1 this with h | h
  ·exact absurd h hz
  ·exact h
def resR (n:Nat) (A:Nat->Nat->Rat) (b z:Nat->Rat) (i:Nat):Rat:=sumQ n (fun j=>A i j*z j)-b i
def msR (R n:Nat) (A:Nat->Nat->Rat) (b w z:Nat->Rat):Rat:=sumQ R fun i=>w i*(resR n A b z i*resR n A b z i)
def mval:List Nat->Nat
 | []=>0
 | d :: l=>d+1000000000*mval l
theorem qcw (l r:List Nat):mval (l++r)=mval l+1000000000 ^ l.length*mval r:=by
 induction l with
 | nil=>simp [mval]
 | cons d l ih =>
  simp only [List.cons_append,mval,ih,qbI,qaD];rw [qaX,qau (1000000000 ^ l.length) 1000000000,qav];omega
theorem qfU (l:List Nat) (h:∀d∈l,d<1000000000):mval l<1000000000 ^ l.length:=by
 induction l with
 | nil=>simp [mval]
 | cons d l ih =>
  have h1:=h d qbQ;have h2:=ih fun x hx=>h x (qbG _ hx)
  simp only [mval,qbI,qaD];omega
theorem qd8 (n:Nat):mval (List.replicate n 0)=0:=by
 induction n with
 | zero=>rfl
 | succ n ih=>simp [qbo,mval,ih]
theorem qcK (l:List Nat) (d:Nat):mval (l++[d])=mval l+1000000000 ^ l.length*d:=by
 rw [qcw];simp [mval]
theorem qhV (l:List Nat) (i d:Nat) (h:i<l.length):mval (l.set i d)+1000000000 ^ i*l[i]=mval l+1000000000 ^ i*d:=by
 induction l generalizing i with
 | nil=>exact absurd h (by simp)
 | cons x l ih =>
  cases i with
  | zero=>simp [mval];omega
  | succ i =>
   have h':i<l.length:=by simpa using h
   have:=ih i h';simp only [List.set_cons_succ,mval,List.getElem_cons_succ,qaD];have e1:1000000000 ^ i*1000000000*l[i]=1000000000*(1000000000 ^ i*l[i]):=by rw [qau (1000000000 ^ i),qav]
   have e2:1000000000 ^ i*1000000000*d=1000000000*(1000000000 ^ i*d):=by rw [qau (1000000000 ^ i),qav]
   omega
theorem qft (l m:List Nat) (i:Nat) (hl:∀d∈l,d<1000000000) (hi:i<l.length) (hi':i<m.length) (h:l[i]<m[i]) (hd:l.drop (i+1)=m.drop (i+1)):mval l<mval m:=by
 have e1:l=l.take i++(l[i] :: l.drop (i+1)):=by rw [<-qbp hi,List.take_append_drop]
 have e2:m=m.take i++(m[i] :: m.drop (i+1)):=by rw [<-qbp hi',List.take_append_drop]
 have b1:mval (l.take i)<1000000000 ^ i:=by
  have:=qfU (l.take i) fun d hd=>hl d (qbH hd)
  rwa [qar,qaZ (by omega)] at this
 rw [e1,e2,qcw,qcw,qar,qar,qaZ (by omega),qaZ (by omega)];simp only [mval,hd];generalize mval (m.drop (i+1))=x;have:1000000000 ^ i*(l[i]+1000000000*x)+1000000000 ^ i<=1000000000 ^ i*(m[i]+1000000000*x):=by
  rw [<-Nat.mul_succ];exact qaR _ (by omega)
 omega
theorem qel (l m:List Nat) (hl:∀d∈l,d<1000000000) (h:l.length<m.length) (ht:m.getLast?≠some 0):mval l<mval m:=by
 have h1:=qfU l hl;cases hm:m.reverse with
 | nil=>rw [List.reverse_eq_nil_iff] at hm;subst hm;exact absurd h (by simp)
 | cons d r =>
  have e:m=r.reverse++[d]:=by rw [<-List.reverse_reverse m,hm,List.reverse_cons]
  have hd:d≠0:=by
   rintro rfl;apply ht;rw [e];simp
  rw [e,qcK];have hlen:l.length<=r.reverse.length:=by rw [e] at h;simp at h ⊢;omega
  have h2:1000000000 ^ l.length<=1000000000 ^ r.reverse.length:=qa3 (by omega) hlen;have h3:1000000000 ^ r.reverse.length*1<=1000000000 ^ r.reverse.length*d:=qaR _ (by omega);omega
section
variable {B U V T head top u2 v2 lu lv:Nat}
theorem qlD (_hT:0<T) (hU:U=(head*B+u2)*T+lu) (hV:V=(top*B+v2)*T+lv) (hu2:u2<B) (hlu:lu<T) (ht:0<top):U / V<=head / top:=by
 rw [Nat.le_div_iff_mul_le ht];have h1:U / V*V<=U:=Nat.div_mul_le_self U V;generalize U / V=Q at *;have h2:Q*(top*B*T)<=Q*V:=qaR _ (by
  rw [hV,qaB];omega)
 have h3:U<(head+1)*B*T:=by
  rw [hU];have:(head*B+u2+1)*T<=(head+1)*B*T:=qa7 _ (by rw [qaB head 1,qbx];omega);have e:(head*B+u2+1)*T=(head*B+u2)*T+T:=by rw [qaB _ 1,qbx]
  omega
 have h4:Q*top*(B*T)<(head+1)*(B*T):=by
  have e1:Q*top*(B*T)=Q*(top*B*T):=by rw [qav,qav]
  have e2:(head+1)*(B*T)=(head+1)*B*T:=by rw [qav]
  omega
 have:=Nat.lt_of_mul_lt_mul_right h4;omega
theorem est_test (hV0:0<V) (hU:U=(head*B+u2)*T+lu) (hV:V=(top*B+v2)*T+lv) (hlu:lu<T) {q r:Nat} (hq:q*top+r=head) (h:r*B+u2<q*v2):U / V<q:=by
 rw [qbC hV0];have h1:head*B+u2+1<=q*(top*B+v2):=by
  have e:q*top*B+r*B=head*B:=by rw [<-hq,qaB]
  have e2:q*(top*B+v2)=q*top*B+q*v2:=by rw [qaX,qav]
  omega
 have h2:(head*B+u2+1)*T<=q*(top*B+v2)*T:=qa7 _ h1;have h3:q*(top*B+v2)*T<=q*V:=by
  rw [qav];exact qaR _ (by omega)
 have h4:(head*B+u2+1)*T=(head*B+u2)*T+T:=by rw [qaB _ 1,qbx]
 omega
theorem est_done (hV0:0<V) (hU:U=(head*B+u2)*T+lu) (hV:V=(top*B+v2)*T+lv) (hlv:lv<T) (ht:0<top) {q r:Nat} (hqB:q<=B) (hq:q*top+r=head) (h:q*v2<=r*B+u2):q<=U / V+1:=by
 rcases qaK q with rfl | hq0
 ·exact qam _
 obtain⟨p,rfl⟩:∃p,q=p+1:=⟨q-1,by omega⟩;have:p<=U / V:=by
  rw [Nat.le_div_iff_mul_le hV0];have h1:p*V<=p*((top*B+v2+1)*T):=qaR _ (by rw [hV,qaB (top*B+v2) 1,qbx];omega);have h2:p*(top*B+v2+1)<=head*B+u2:=by
   have e:(p+1)*top*B+r*B=head*B:=by rw [<-hq];exact (qaB _ _ _).symm
   have e2:(p+1)*top*B=p*(top*B)+top*B:=by rw [qaB p 1,qbx,qaB,qav]
   have e3:p*(top*B+v2+1)=p*(top*B)+p*v2+p:=by rw [qaX,qaX,Nat.mul_one]
   have e4:(p+1)*v2=p*v2+v2:=by rw [qaB,qbx]
   have e5:B<=top*B:=Nat.le_mul_of_pos_left _ ht;rw [e3];rw [e2] at e;rw [e4] at h;omega
  have h3:p*(top*B+v2+1)*T<=(head*B+u2)*T:=qa7 _ h2;rw [qav] at h3;omega
 omega
theorem est_head (_hT:0<T) (_hB:0<B) (hU:U=(head*B+u2)*T+lu) (hV:V=(top*B+v2)*T+lv) (hv2:v2<B) (hlv:lv<T) (h:U<B*V):head<(top+1)*B:=by
 have h1:V<(top+1)*B*T:=by
  have e:(top*B+v2+1)*T<=(top+1)*B*T:=qa7 _ (by rw [qaB top 1,qbx];omega);have e2:(top*B+v2+1)*T=(top*B+v2)*T+T:=by rw [qaB _ 1,qbx]
  omega
 have h2:head*(B*T)<=U:=by
  rw [hU,qaB,qav head];omega
 have h3:B*V<=B*((top+1)*B*T):=qaR _ (qao h1);have h4:B*((top+1)*B*T)=(top+1)*B*(B*T):=by
  rw [<-qav,qau B ((top+1)*B),qav]
 have h5:head*(B*T)<(top+1)*B*(B*T):=by omega
 exact Nat.lt_of_mul_lt_mul_right h5
end
def Dig (L:List Nat):Prop:=∀k,L.getD k 0<1000000000
theorem Dig.mem {L:List Nat} (h:Dig L):∀d∈L,d<1000000000:=fun d hd=>by
 obtain⟨i,hi,rfl⟩:=List.getElem_of_mem hd;have:=h i
 rwa [qaa,qae hi] at this
theorem Dig.of {L:List Nat} (h:∀d∈L,d<1000000000):Dig L:=fun k=>by
 rw [qaa];cases hk:L[k]? with
 | none=>exact (by decide:0<1000000000)
 | some x=>exact h x (List.mem_of_getElem? hk)
theorem Dig.nil:Dig []:=Dig.of (by simp)
theorem Dig.snoc {L:List Nat} (h:Dig L) {d:Nat} (hd:d<1000000000):Dig (L++[d]):=Dig.of fun x hx=>by
 rcases qaN.1 hx with hx | hx
 ·exact h.mem x hx
 ·rw [qap.1 hx];exact hd
theorem Dig.set {L:List Nat} (h:Dig L) {d:Nat} (hd:d<1000000000) (i:Nat):Dig (L.set i d):=Dig.of fun x hx=>by
 rcases List.mem_or_eq_of_mem_set hx with hx | rfl
 ·exact h.mem x hx
 ·exact hd
theorem Dig.take {L:List Nat} (h:Dig L) (n:Nat):Dig (L.take n):=Dig.of fun x hx=>h.mem x (qbH hx)
theorem Dig.drop {L:List Nat} (h:Dig L) (n:Nat):Dig (L.drop n):=Dig.of fun x hx=>h.mem x (List.mem_of_mem_drop hx)
theorem Dig.append {L M:List Nat} (h:Dig L) (h':Dig M):Dig (L++M):=Dig.of fun x hx=>(qaN.1 hx).elim (h.mem x) (h'.mem x)
theorem Dig.zeros (n:Nat):Dig (List.replicate n 0):=Dig.of fun x hx=>by rw [(List.mem_replicate.1 hx).2];decide
theorem Dig.lt {L:List Nat} (h:Dig L):mval L<1000000000 ^ L.length:=qfU L h.mem
theorem qdK {L:List Nat} {k:Nat} (h:k<L.length):L[k]? = some (L.getD k 0):=by
 rw [qae h,qaa,qae h];rfl
theorem qdl {L:List Nat} {k:Nat} (h:L.length<=k):L.getD k 0=0:=by
 rw [qaa,qba h];rfl
theorem qbV (L:List Nat) (k:Nat):mval (L.take (k+1))=mval (L.take k)+1000000000 ^ k*L.getD k 0:=by
 by_cases h:k<L.length
 ·rw [List.take_add_one,qdK h]
  show mval (L.take k++[L.getD k 0])=_
  rw [qcK,qar,qaZ (qao h)]
 ·rw [qak (by omega),qak (by omega),qdl (by omega)];simp
theorem qcJ (L:List Nat) (k:Nat):mval (L.drop k)=L.getD k 0+1000000000*mval (L.drop (k+1)):=by
 by_cases h:k<L.length
 ·rw [qbp h];simp only [mval];rw [qaa,qae h];rfl
 ·rw [qaG (by omega),qaG (by omega),qdl (by omega)];simp [mval]
theorem qdW (L:List Nat) (k:Nat) (hk:k<=L.length):mval L=mval (L.take k)+1000000000 ^ k*mval (L.drop k):=by
 conv=>lhs;rw [<-List.take_append_drop k L]
 rw [qcw,qar,qaZ hk]
theorem getD_set_ne {L:List Nat} {i j d:Nat} (h:i≠j):(L.set i d).getD j 0=L.getD j 0:=by
 rw [qaa,List.getElem?_set_ne h,<-qaa]
theorem qcQ {L:List Nat} {i d:Nat} (h:i<L.length):(L.set i d).getD i 0=d:=by
 rw [qaa,List.getElem?_set_self h];rfl
theorem qc4 {L:List Nat} {k d:Nat} (h:k<L.length):mval ((L.set k d).take (k+1))=mval (L.take k)+1000000000 ^ k*d:=by
 rw [qbV,qcQ h]
 congr 2
 rw [List.take_set_of_le qN]
theorem qdn {L:List Nat} {k d:Nat} (h:k<L.length):mval ((L.set k d).drop k)=d+1000000000*mval (L.drop (k+1)):=by
 rw [qcJ,qcQ h,List.drop_set_of_lt (by omega)]
theorem qeA {L:List Nat} {k d:Nat} (h:k<L.length):mval (L.set k d)+1000000000 ^ k*L.getD k 0=mval L+1000000000 ^ k*d:=by
 have:=qhV L k d h
 rwa [qaa,qae h]
def Zero (L:List Nat) (n:Nat):Prop:=∀k,n<=k->L.getD k 0=0
theorem Zero.all (L:List Nat):Zero L L.length:=fun _ h=>qdl h
theorem Zero.mono {L:List Nat} {n m:Nat} (h:Zero L n) (hm:n<=m):Zero L m:=fun k hk=>h k (by omega)
theorem Zero.zeros (n m:Nat):Zero (List.replicate n 0) m:=fun k _=>by
 by_cases h:k<n
 ·rw [qaa,qbc,if_pos h];rfl
 ·exact qdl (by rw [qaQ];omega)
theorem Zero.set {L:List Nat} {n k d:Nat} (h:Zero L n) (hk:k<n):Zero (L.set k d) n:=fun j hj=>by rw [getD_set_ne (by omega)];exact h j hj
theorem Zero.set_succ {L:List Nat} {n d:Nat} (h:Zero L n):Zero (L.set n d) (n+1):=fun j hj=>by rw [getD_set_ne (by omega)];exact h j (by omega)
theorem Zero.down {L:List Nat} {n:Nat} (h:Zero L (n+1)) (h0:L.getD n 0=0):Zero L n:=fun k hk=>by
 by_cases e:k=n
 ·rw [e];exact h0
 ·exact h k (by omega)
theorem qdw {L:List Nat} {n:Nat} (h:Zero L n):mval (L.drop n)=0:=by
 induction hm:L.length-n generalizing n with
 | zero=>rw [qaG (by omega)];rfl
 | succ m ih =>
  rw [qcJ,h n qN,ih (h.mono (by omega)) (by omega)]
theorem qcp {L:List Nat} {n:Nat} (h:Zero L n):mval (L.take n)=mval L:=by
 by_cases hn:n<=L.length
 ·rw [qdW L n hn,qdw h];omega
 ·rw [qak (by omega)]
def Nrm (L:List Nat):Prop:=L.length=0\/L.getD (L.length-1) 0≠0
theorem Nrm.ge {L:List Nat} (h:Nrm L) (h0:0<L.length):1000000000 ^ (L.length-1)<=mval L:=by
 have h1:=h.resolve_left (by omega);have e:=qbV L (L.length-1);rw [show L.length-1+1=L.length by omega,qbi] at e;rw [e];exact qaj (Nat.le_mul_of_pos_right _ (qbe h1)) (Nat.le_add_left _ _)
theorem Nrm.of_ge {L:List Nat} (hd:Dig L) (h:L.length=0\/1000000000 ^ (L.length-1)<=mval L):Nrm L:=by
 rcases h with h | h
 ·exact qan h
 ·rcases qaK L.length with h0 | h0
  ·exact qan h0
  ·right
   intro hz;have e:=qbV L (L.length-1);rw [show L.length-1+1=L.length by omega,qbi,hz,Nat.mul_zero,qbh] at e;have h1:=qfU (L.take (L.length-1)) (hd.mem · <| qbH ·);rw [qar,qaZ (by omega)] at h1;omega
theorem Nrm.snoc (L:List Nat) {d:Nat} (h:d≠0):Nrm (L++[d]):=by
 right
 rw [qaf,qax,Nat.add_sub_cancel,qaa,qas qN,qaI];exact h
theorem Nrm.zero {L:List Nat} (h:Nrm L):mval L=0↔L.length=0:=by
 constructor
 ·intro e;rcases qaK L.length with h0 | h0
  ·exact h0
  ·have:=h.ge h0;have:=Nat.pow_pos (n:=L.length-1) (show 0<1000000000 by decide);omega
 ·intro e;rw [qbu.1 e];rfl
theorem Nrm.len {L:List Nat} (h:Nrm L) {n:Nat} (hv:mval L<1000000000 ^ n):L.length<=n:=by
 rcases qaK L.length with h0 | h0
 ·omega
 ·have h1:=h.ge h0;have h2:=(Nat.pow_lt_pow_iff_right (show 1<1000000000 by decide)).1 (qaF h1 hv);omega
theorem qgx {P B x y z s c c' m o:Nat} (h1:x+P*c=y+z) (h2:s+B*c'=m+c+o):x+P*s+P*B*c'=y+P*m+(z+P*o):=by
 have h:=congrArg (P * ·) h2;simp only [qaX] at h;have e1:P*B*c'=P*(B*c'):=by simp only [qav]
 omega
theorem qfq {P B x y z s b b' m o:Nat} (h1:x+z=y+P*b) (h2:s+b+o=m+B*b'):x+P*s+(z+P*o)=y+P*m+P*B*b':=by
 have h:=congrArg (P * ·) h2;simp only [qaX] at h;have e1:P*B*b'=P*(B*b'):=by simp only [qav]
 omega
theorem qhf {A C B x p s c c' d e X Y Z: Nat} (h1:Y+A*C*p=x+A*C*s) (h2:x+A*C*c=X+A*d*Z) (h3:s+B*c'=c+(p+d*e)):Y+A*(C*B)*c'=X+A*d*(Z+C*e):=by
 have h:=congrArg (A*C * ·) h3;simp only [qaX] at h ⊢;have e1:A*(C*B)*c'=A*C*(B*c'):=by simp only [qav]
 have e2:A*d*(C*e)=A*C*(d*e):=by simp only [qav,qbv]
 omega
theorem qhY {A A1 E E1 x c d d1 X Y Z:Nat} (h1:Y+E*0=x+E*c) (h2:x+E*c=X*Z+A*d*Z):Y+E1*0=(X+A*d)*Z+A1*d1*mval []:=by
 simp only [mval,Nat.mul_zero,qbh,qaB] at *;omega
theorem qg7 {B R d r m M q t:Nat} (h1:R*d+r=M) (h2:d*q+t=r*B+m):(q+B*R)*d+t=m+B*M:=by
 subst h1;simp only [qaX,qaB];have e1:B*R*d=B*(R*d):=by simp only [qav]
 have e2:q*d=d*q:=qau _ _;have e3:r*B=B*r:=qau _ _;omega
structure PlusInv (m o:List Nat) (k:Nat) (L:List Nat) (c:Nat):Prop where
 len:L.length=k
 dig:Dig L
 carry:c<=1
 val:mval L+1000000000 ^ k*c=mval (m.take k)+mval (o.take k)
theorem PlusInv.start (m o:List Nat):PlusInv m o 0 [] 0:=⟨rfl,Dig.nil,by decide,by simp [mval]⟩
theorem PlusInv.step {m o L:List Nat} {k c s c':Nat} (h:PlusInv m o k L c) (hs:s<1000000000) (hc:c'<=1) (e:s+1000000000*c'=m.getD k 0+c+o.getD k 0):PlusInv m o (k+1) (L++[s]) c':=by
 refine⟨by rw [qaf,h.len];rfl,h.dig.snoc hs,hc,?_⟩;have hv:=h.val;rw [qcK,h.len,qbV,qbV,qaD];exact qgx hv e
theorem PlusInv.done {m o L:List Nat} {c:Nat} (h:PlusInv m o m.length L c) (ho:o.length<=m.length):mval L+1000000000 ^ m.length*c=mval m+mval o:=by
 have:=h.val
 rwa [qak qN,qak ho] at this
structure MinusInv (m o:List Nat) (k:Nat) (R:List Nat) (b:Nat):Prop where
 len:R.length=m.length
 dig:Dig R
 carry:b<=1
 val:mval (R.take k)+mval (o.take k)=mval (m.take k)+1000000000 ^ k*b
theorem MinusInv.start (m o:List Nat):MinusInv m o 0 (List.replicate m.length 0) 0:=⟨by simp,Dig.zeros _,by decide,by simp [mval]⟩
theorem MinusInv.step {m o R:List Nat} {k b s b':Nat} (h:MinusInv m o k R b) (hk:k<m.length) (hs:s<1000000000) (hb:b'<=1) (e:s+b+o.getD k 0=m.getD k 0+1000000000*b'):MinusInv m o (k+1) (R.set k s) b':=by
 refine⟨by rw [qbb,h.len],h.dig.set hs _,hb,?_⟩;have hv:=h.val;rw [qc4 (by rw [h.len];exact hk),qbV,qbV,qaD];exact qfq hv e
theorem MinusInv.done {m o R:List Nat} {b:Nat} (h:MinusInv m o m.length R b) (ho:o.length<=m.length) (hle:mval o<=mval m):mval R=mval m-mval o:=by
 have hv:=h.val;rw [qak qN,qak ho,qak (by rw [h.len];exact qad _)] at hv;have h1:=h.dig.lt;rw [h.len] at h1;have h2:=h.carry;rcases (show b=0\/b=1 by omega) with rfl | rfl
 ·omega
 ·omega
structure TimesInv (m o:List Nat) (i j:Nat) (P:List Nat) (c:Nat):Prop where
 len:P.length=m.length+o.length
 dig:Dig P
 carry:c<1000000000
 zero:Zero P (i+o.length)
 val:mval P+1000000000 ^ (i+j)*c=mval (m.take i)*mval o+1000000000 ^ i*m.getD i 0*mval (o.take j)
theorem TimesInv.start (m o:List Nat):TimesInv m o 0 0 (List.replicate (m.length+o.length) 0) 0:=⟨by simp,Dig.zeros _,by decide,Zero.zeros _ _,by simp [mval,qd8]⟩
theorem TimesInv.step {m o P:List Nat} {i j c s c':Nat} (h:TimesInv m o i j P c) (hi:i<m.length) (hj:j<o.length) (hs:s<1000000000) (hc:c'<1000000000) (e:s+1000000000*c'=c+(P.getD (i+j) 0+m.getD i 0*o.getD j 0)):TimesInv m o i (j+1) (P.set (i+j) s) c':=by
 refine⟨by rw [qbb,h.len],h.dig.set hs _,hc,h.zero.set (by omega),?_⟩;have hv:=h.val;have hs:=qeA (L:=P) (k:=i+j) (d:=s) (by rw [h.len];omega);rw [qbV,Nat.pow_add,qaD];rw [Nat.pow_add] at hs hv;exact qhf hs hv e
theorem TimesInv.next {m o P:List Nat} {i c:Nat} (h:TimesInv m o i o.length P c) (hi:i<m.length):TimesInv m o (i+1) 0 (P.set (i+o.length) c) 0:=by
 refine⟨by rw [qbb,h.len],h.dig.set h.carry _,by decide,?_,?_⟩
 ·have:=h.zero.set_succ (d:=c)
  rwa [show i+o.length+1=i+1+o.length by omega] at this
 have hv:=h.val;have hs:=qeA (L:=P) (k:=i+o.length) (d:=c) (by rw [h.len];omega);rw [h.zero _ qN] at hs;rw [qak qN] at hv;rw [qbV,List.take_zero];exact qhY hs hv
theorem TimesInv.done {m o P:List Nat} {c:Nat} (h:TimesInv m o m.length 0 P c) (hc:c=0):mval P=mval m*mval o:=by
 have hv:=h.val;subst hc;rw [qak qN] at hv
 simpa [mval] using hv
theorem qhg {c p d e:Nat} (hc:c<1000000000) (hp:p<1000000000) (hd:d<1000000000) (he:e<1000000000):c+(p+d*e)<1000000000000000000:=by
 have:d*e<=999999999*999999999:=Nat.mul_le_mul (by omega) (by omega);omega
structure ShortInv (m:List Nat) (d k:Nat) (R:List Nat) (r:Nat):Prop where
 len:R.length=m.length
 dig:Dig R
 rest:r<d
 val:mval (R.drop k)*d+r=mval (m.drop k)
theorem ShortInv.start (m:List Nat) {d:Nat} (hd:0<d):ShortInv m d m.length (List.replicate m.length 0) 0:=⟨by simp,Dig.zeros _,hd,by rw [qaG (by simp),qaG (by simp)];simp [mval]⟩
theorem ShortInv.step {m R:List Nat} {d k r:Nat} (h:ShortInv m d (k+1) R r) (hk:k<m.length) (hm:Dig m):ShortInv m d k (R.set k ((r*1000000000+m.getD k 0) / d)) ((r*1000000000+m.getD k 0) % d):=by
 have hd:0<d:=by have:=h.rest;omega
 have hq:(r*1000000000+m.getD k 0) / d<1000000000:=by
  rw [qbC hd];have h1:=hm k;have h2:=h.rest;have:(r+1)*1000000000<=d*1000000000:=qa7 _ (by omega);omega
 refine⟨by rw [qbb,h.len],h.dig.set hq _,qbk _ hd,?_⟩;rw [qdn (by rw [h.len];exact hk),qcJ m k,<-h.val];have:=Nat.div_add_mod (r*1000000000+m.getD k 0) d;exact qg7 rfl this
theorem ShortInv.done {m R:List Nat} {d r:Nat} (h:ShortInv m d 0 R r):mval R=mval m / d/\r=mval m % d:=by
 have hv:=h.val;simp only [List.drop_zero] at hv;have hr:=h.rest;rw [<-hv]
 constructor
 ·rw [qau,Nat.mul_add_div (by omega),Nat.div_eq_of_lt hr];rfl
 ·rw [qau,Nat.mul_add_mod,Nat.mod_eq_of_lt hr]
theorem qfz (n:Nat):0<1000000000 ^ n:=Nat.pow_pos (by decide)
theorem sub_alg {P B R q V U b c r b' c' t d x:Nat} (h1:R+q*V=U+P*(b+c)) (h2:c+q*d=B*c'+t) (h3:r+b+t=x+B*b'):R+P*r+q*(V+P*d)=U+P*x+P*B*(b'+c'):=by
 have e1:=congrArg (P * ·) h2;have e2:=congrArg (P * ·) h3;simp only [qaX] at *;have e3:q*(P*d)=P*(q*d):=qbv _ _ _;have e4:P*B*b'=P*(B*b'):=qav _ _ _;have e5:P*B*c'=P*(B*c'):=qav _ _ _;omega
structure SubInv (u v:List Nat) (q k:Nat) (R:List Nat) (b c:Nat):Prop where
 len:R.length=u.length
 dig:Dig R
 borrow:b<=1
 carry:c<1000000000
 rest:∀j,k<=j->R.getD j 0=u.getD j 0
 val:mval (R.take k)+q*mval (v.take k)=mval (u.take k)+1000000000 ^ k*(b+c)
theorem SubInv.start {u v:List Nat} {q:Nat} (hu:Dig u):SubInv u v q 0 u 0 0:=⟨rfl,hu,by decide,by decide,fun _ _=>rfl,by simp [mval]⟩
theorem SubInv.step {u v R:List Nat} {q k b c r b' c' t:Nat} (h:SubInv u v q k R b c) (hk:k<u.length) (hr:r<1000000000) (hb:b'<=1) (hc:c'<1000000000) (h2:c+q*v.getD k 0=1000000000*c'+t) (h3:r+b+t=u.getD k 0+1000000000*b') :
  SubInv u v q (k+1) (R.set k r) b' c':=by
 refine⟨by rw [qbb,h.len],h.dig.set hr _,hb,hc,fun j hj=>by rw [getD_set_ne (by omega)];exact h.rest j (by omega),?_⟩;rw [qc4 (by rw [h.len];exact hk),qbV,qbV,qaD];exact sub_alg h.val h2 h3
theorem qiZ {c q d:Nat} (hc:c<1000000000) (hq:q<1000000000) (hd:d<1000000000):c+q*d<1000000000000000000:=by
 have:q*d<=999999999*999999999:=Nat.mul_le_mul (by omega) (by omega);omega
structure BackInv (u v:List Nat) (k:Nat) (R:List Nat) (c:Nat):Prop where
 len:R.length=u.length
 dig:Dig R
 carry:c<=1
 rest:∀j,k<=j->R.getD j 0=u.getD j 0
 val:mval (R.take k)+1000000000 ^ k*c=mval (u.take k)+mval (v.take k)
theorem BackInv.start {u v:List Nat} (hu:Dig u):BackInv u v 0 u 0:=⟨rfl,hu,by decide,fun _ _=>rfl,by simp [mval]⟩
theorem BackInv.step {u v R:List Nat} {k c s c':Nat} (h:BackInv u v k R c) (hk:k<u.length) (hs:s<1000000000) (hc:c'<=1) (e:s+1000000000*c'=u.getD k 0+c+v.getD k 0):BackInv u v (k+1) (R.set k s) c':=by
 refine⟨by rw [qbb,h.len],h.dig.set hs _,hc,fun j hj=>by rw [getD_set_ne (by omega)];exact h.rest j (by omega),?_⟩;rw [qc4 (by rw [h.len];exact hk),qbV,qbV,qaD];exact qgx h.val e
structure Reduced (u v:List Nat) (R:List Nat) (q:Nat):Prop where
 len:R.length=u.length
 dig:Dig R
 quot:q=mval u / mval v
 val:mval R=mval u % mval v
 top:Zero R v.length
theorem qg4 {u v R:List Nat} {n:Nat} (hl:u.length=n+1) (hvl:v.length=n) (hR:R.length=u.length) (hd:Dig R) {q:Nat} (_hv:0<mval v) (hval:mval (R.take n)=mval u-q*mval v) (hle:q*mval v<=mval u) (hlt:mval u<(q+1)*mval v) :
  Reduced u v (R.set n 0) q:=by
 have hq:q=mval u / mval v:=((Nat.div_eq_of_lt_le hle hlt)).symm;have h1:mval (R.set n 0)=mval (R.take n):=by
  have:=qc4 (L:=R) (k:=n) (d:=0) (by omega)
  rwa [qak (by rw [qbb];omega),Nat.mul_zero,qbh] at this
 refine⟨by rw [qbb,hR],hd.set (by decide) _,hq,?_,?_⟩
 ·rw [h1,hval,hq,qau,Nat.sub_eq_of_eq_add];exact (Nat.mod_add_div _ _).symm
 ·intro j hj
  by_cases e:j=n
  ·rw [e,qcQ (by omega)]
  ·exact qdl (by rw [qbb];omega)
theorem qfB {u v R:List Nat} {n q b c:Nat} (h:SubInv u v q n R b c) (hl:u.length=n+1) (hvl:v.length=n) (hd:Dig v) (hv:0<mval v) (hq:mval u / mval v<=q) (hno:¬u.getD n 0<b+c):Reduced u v (R.set n 0) q:=by
 have hval:=h.val;have e:mval u=mval (u.take n)+1000000000 ^ n*u.getD n 0:=by
  have:=qbV u n
  rwa [qak (by omega)] at this
 rw [qak (l:=v) (by omega)] at hval;have hRt:=(h.dig.take n).lt;rw [qar,qaZ (by rw [h.len];omega)] at hRt;have hvt:=hd.lt;rw [hvl] at hvt;have h2:mval u<(q+1)*mval v:=by
  have:=(qbC hv).1 (Nat.lt_succ_of_le hq);exact this
 obtain⟨s,hs⟩:∃s,u.getD n 0=b+c+s:=⟨u.getD n 0-(b+c),by omega⟩;rw [hs,qaX] at e;have hle:q*mval v<=mval u:=by omega
 have hs0:s=0:=by
  rcases qaK s with h0 | h0
  ·exact h0
  ·have:1000000000 ^ n*1<=1000000000 ^ n*s:=qaR _ h0;rw [qaB,qbx] at h2;omega
 subst hs0;exact qg4 hl hvl h.len h.dig hv (by omega) hle h2
theorem qgl {u v R S:List Nat} {n q b c o:Nat} (h:SubInv u v q n R b c) (k:BackInv R v n S o) (hl:u.length=n+1) (hvl:v.length=n) (hd:Dig v) (hv:0<mval v) (hq:q<=mval u / mval v+1) (hlt:u.getD n 0<b+c):Reduced u v (S.set n 0) (q-1):=by
 have hval:=h.val;have hval2:=k.val;have e:mval u=mval (u.take n)+1000000000 ^ n*u.getD n 0:=by
  have:=qbV u n
  rwa [qak (by omega)] at this
 rw [qak (l:=v) (by omega)] at hval hval2;have hRt:=(h.dig.take n).lt;have hSt:=(k.dig.take n).lt;have hvt:=hd.lt;rw [hvl] at hvt;rw [qar,qaZ (by rw [h.len];omega)] at hRt;rw [qar,qaZ (by rw [k.len,h.len];omega)] at hSt;obtain⟨s,hs⟩:∃s,b+c=u.getD n 0+1+s:=⟨b+c-(u.getD n 0+1),by omega⟩;rw [hs,qaX,qaX] at hval;have hgt:mval u<q*mval v:=by omega
 have hq0:0<q:=by
  rcases qaK q with h0 | h0
  ·subst h0;omega
  ·exact h0
 obtain⟨p,rfl⟩:∃p,q=p+1:=⟨q-1,by omega⟩;have hle:p*mval v<=mval u:=(Nat.le_div_iff_mul_le hv).1 (by omega);have e2:(p+1)*mval v=p*mval v+mval v:=by rw [qaB,qbx]
 have h3:=k.carry;have ho:mval (S.take n)=mval u-p*mval v:=by
  rcases (show o=0\/o=1 by omega) with rfl | rfl
  ·rcases qaK s with h0 | h0
   ·subst h0;omega
   ·have:1000000000 ^ n*1<=1000000000 ^ n*s:=qaR _ h0;omega
  ·rcases qaK s with h0 | h0
   ·subst h0;omega
   ·have:1000000000 ^ n*1<=1000000000 ^ n*s:=qaR _ h0;omega
 rw [Nat.add_sub_cancel];exact qg4 hl hvl (by rw [k.len,h.len]) k.dig hv ho hle hgt
theorem div_alg {P V B Q q W R U:Nat} (h1:Q*(P*B)*V+U=W) (h2:P*(q*V)+R=U):(q+B*Q)*P*V+R=W:=by
 subst h1 h2;have e1:Q*(P*B)*V=B*Q*P*V:=by simp only [qau,qbv]
 have e2:P*(q*V)=q*P*V:=by simp only [qav,qbv]
 rw [qaB,qaB,e1,e2];omega
structure DivInv (w v:List Nat) (k:Nat) (q u:List Nat):Prop where
 lenu:u.length=w.length
 lenq:q.length=w.length-v.length
 digu:Dig u
 digq:Dig q
 zero:Zero u (k+v.length)
 val:mval (q.drop k)*1000000000 ^ k*mval v+mval u=mval w
 small:mval u<1000000000 ^ k*mval v
theorem DivInv.start {w v:List Nat} (hw:Dig w) (hz:mval w<1000000000 ^ (w.length-v.length)*mval v) (hl:v.length<=w.length):DivInv w v (w.length-v.length) (List.replicate (w.length-v.length) 0) w :=
 ⟨rfl,by simp,hw,Dig.zeros _,by rw [Nat.sub_add_cancel hl];exact Zero.all w,by rw [qaG (by simp)];simp [mval],hz⟩
theorem qj9 {u:List Nat} {k n:Nat} (hk:k+n<=u.length) (hz:Zero u (k+n)):mval u=mval (u.take k)+1000000000 ^ k*mval ((u.drop k).take n):=by
 rw [<-qcp hz,List.take_add,qcw,qar,qaZ (by omega)]
theorem DivInv.part {w v q u:List Nat} {k:Nat} (h:DivInv w v (k+1) q u) (hk:k+1+v.length<=w.length):mval ((u.drop k).take (v.length+1))<1000000000*mval v/\((u.drop k).take (v.length+1)).length=v.length+1/\Dig ((u.drop k).take (v.length+1)):=by
 have hl:=h.lenu;refine⟨?_,by rw [qar,qaY];omega,(h.digu.drop _).take _⟩;have h1:=h.small;have h2:=qj9 (u:=u) (k:=k) (n:=v.length+1) (by omega) (by have:=h.zero;rwa [show k+1+v.length=k+(v.length+1) by omega] at this);rw [qaD,qav] at h1;exact Nat.lt_of_mul_lt_mul_left (a:=1000000000 ^ k) (by omega)
theorem DivInv.step {w v q u R:List Nat} {k x:Nat} (h:DivInv w v (k+1) q u) (hk:k+1+v.length<=w.length) (hv:0<mval v) (hr:Reduced ((u.drop k).take (v.length+1)) v R x) :
  DivInv w v k (q.set k x) (u.take k++R++u.drop (k+(v.length+1))):=by
 have hl:=h.lenu;have hlq:=h.lenq;obtain⟨p1,p2,p3⟩:=h.part hk;have hRl:=hr.len;rw [p2] at hRl;have hx:x<1000000000:=by
  rw [hr.quot,qbC hv];exact p1
 have hRv:mval R<mval v:=by rw [hr.val];exact qbk _ hv
 have htk:(u.take k).length=k:=by rw [qar];omega
 have hval:=qj9 (u:=u) (k:=k) (n:=v.length+1) (by omega) (by have:=h.zero;rwa [show k+1+v.length=k+(v.length+1) by omega] at this);have hz0:mval (u.drop (k+(v.length+1)))=0:=qdw (by have:=h.zero;rwa [show k+1+v.length=k+(v.length+1) by omega] at this);have hnew:mval (u.take k++R++u.drop (k+(v.length+1)))=mval (u.take k)+1000000000 ^ k*mval R:=by
  rw [qcw,qcw,hz0,htk];omega
 have hdig:Dig (u.take k++R++u.drop (k+(v.length+1))):=((h.digu.take _).append hr.dig).append (h.digu.drop _);have hut:=(h.digu.take k).lt;rw [htk] at hut;have hsm:mval (u.take k++R++u.drop (k+(v.length+1)))<1000000000 ^ k*mval v:=by
  rw [hnew];have:1000000000 ^ k*(mval R+1)<=1000000000 ^ k*mval v:=qaR _ hRv;rw [qaX] at this;omega
 have hlen:(u.take k++R++u.drop (k+(v.length+1))).length=w.length:=by
  rw [qaf,qaf,htk,hRl,qaY];omega
 refine⟨hlen,by rw [qbb,hlq],hdig,h.digq.set hx _,?_,?_,hsm⟩
 ·intro j hj;have hz:=h.zero;rw [qaa,List.getElem?_append];split
  ·rename_i h1;rw [qas (by omega),<-qaa];exact hr.top _ (by omega)
  ·rename_i h1;rw [qaf,htk,hRl] at h1;rw [qaf,htk,hRl,List.getElem?_drop,<-qaa];exact hz _ (by omega)
 ·rw [qdn (by rw [hlq];omega),hnew];have hv1:=h.val;rw [qaD,hval] at hv1;have hdm:=Nat.div_add_mod (mval ((u.drop k).take (v.length+1))) (mval v);rw [<-hr.quot,<-hr.val] at hdm;refine div_alg hv1 ?_;rw [<-hdm,qaX,qau x];omega
theorem qhF {v:List Nat} {n:Nat} (hn:2<=n) (hl:v.length=n):mval v=(v.getD (n-1) 0*1000000000+v.getD (n-2) 0)*1000000000 ^ (n-2)+mval (v.take (n-2)):=by
 have e1:=qbV v (n-1);have e2:=qbV v (n-2);rw [show n-1+1=n by omega,<-hl,qbi,hl] at e1;rw [show n-2+1=n-1 by omega] at e2;rw [e1,e2,show n-1=(n-2)+1 by omega,qaD];generalize 1000000000 ^ (n-2)=P;have e3:P*1000000000*v.getD (n-2+1) 0=v.getD (n-2+1) 0*1000000000*P:=by simp only [qau,qbv]
 have e4:P*v.getD (n-2) 0=v.getD (n-2) 0*P:=qau _ _;rw [qaB,e3,e4];omega
theorem qkg {u:List Nat} {n:Nat} (hn:2<=n) (hl:u.length=n+1):mval u=((u.getD n 0*1000000000+u.getD (n-1) 0)*1000000000+u.getD (n-2) 0)*1000000000 ^ (n-2)+mval (u.take (n-2)):=by
 have e0:=qbV u n;have h:=qhF (v:=u.take n) hn (by rw [qar];omega);have g1:(u.take n).getD (n-1) 0=u.getD (n-1) 0:=by rw [qaa,qbA (by omega),<-qaa]
 have g2:(u.take n).getD (n-2) 0=u.getD (n-2) 0:=by rw [qaa,qbA (by omega),<-qaa]
 rw [<-hl,qbi] at e0;rw [g1,g2,List.take_take,qaZ (by omega)] at h;rw [e0,h,show 1000000000 ^ n=1000000000 ^ (n-2)*(1000000000*1000000000) by rw [<-Nat.pow_two,<-Nat.pow_add];congr 1;omega];generalize 1000000000 ^ (n-2)=P;simp only [qaB];have:P*(1000000000*1000000000)*u.getD n 0=u.getD n 0*1000000000*1000000000*P:=by
  simp only [qau,qbv]
 omega
structure Est (u v:List Nat) (n:Nat):Prop where
 two:2<=n
 lu:u.length=n+1
 lv:v.length=n
 du:Dig u
 dv:Dig v
 half:1000000000<=2*v.getD (n-1) 0+1
 small:mval u<1000000000*mval v
namespace Est
variable {u v:List Nat} {n:Nat}
def top (v:List Nat) (n:Nat):Nat:=v.getD (n-1) 0
def head (u:List Nat) (n:Nat):Nat:=u.getD n 0*1000000000+u.getD (n-1) 0
theorem top_pos (h:Est u v n):0<top v n:=by have:=h.half;unfold top;omega
theorem v_pos (h:Est u v n):0<mval v:=by
 rw [qhF h.two h.lv];have h1:=h.top_pos;have h2:=qfz (n-2);have:0<(v.getD (n-1) 0*1000000000+v.getD (n-2) 0)*1000000000 ^ (n-2):=qbP (by unfold top at h1;omega) h2;omega
theorem low (h:Est u v n):mval (u.take (n-2))<1000000000 ^ (n-2)/\mval (v.take (n-2))<1000000000 ^ (n-2):=by
 have h1:=(h.du.take (n-2)).lt;have h2:=(h.dv.take (n-2)).lt;rw [qar,qaZ (by have:=h.lu;omega)] at h1;rw [qar,qaZ (by have:=h.lv;omega)] at h2;exact⟨h1,h2⟩
theorem head_lt (h:Est u v n):head u n<(top v n+1)*1000000000 :=
 est_head (qfz _) (by decide) (qkg h.two h.lu) (qhF h.two h.lv) (h.dv _) h.low.2 h.small
theorem quot_lt (h:Est u v n):mval u / mval v<1000000000:=(qbC h.v_pos).2 h.small
theorem first (h:Est u v n):mval u / mval v<=head u n / top v n/\head u n / top v n<=1000000002:=by
 refine⟨qlD (qfz _) (qkg h.two h.lu) (qhF h.two h.lv) (h.du _) h.low.1 h.top_pos,?_⟩;have h1:=h.head_lt;have h2:=h.half;have:head u n / top v n<1000000003:=by
  rw [qbC h.top_pos];unfold top at *;omega
 omega
theorem down (h:Est u v n) {q r:Nat} (hq:q*top v n+r=head u n) (hle:mval u / mval v<=q) (ht:1000000000<=q\/r*1000000000+u.getD (n-2) 0<q*v.getD (n-2) 0) :
  1<=q/\mval u / mval v<=q-1/\(q-1)*top v n+(r+top v n)=head u n:=by
 have hlt:mval u / mval v<q:=by
  rcases ht with h1 | h1
  ·have:=h.quot_lt;omega
  ·exact est_test h.v_pos (qkg h.two h.lu) (qhF h.two h.lv) h.low.1 hq h1
 clear ht;generalize mval u / mval v=Q at *;obtain⟨p,rfl⟩:∃p,q=p+1:=⟨q-1,by omega⟩;rw [qaB,qbx] at hq;refine⟨by omega,by omega,?_⟩;rw [Nat.add_sub_cancel];omega
theorem done (h:Est u v n) {q r:Nat} (hq:q*top v n+r=head u n) (h1:q<1000000000) (h2:q*v.getD (n-2) 0<=r*1000000000+u.getD (n-2) 0):q<=mval u / mval v+1 :=
 est_done h.v_pos (qkg h.two h.lu) (qhF h.two h.lv) h.low.2 h.top_pos (by omega) hq h2
theorem broke (h:Est u v n) {q r:Nat} (hq:q*top v n+r=head u n) (hr:1000000000<=r):q<1000000000/\q<=mval u / mval v+1:=by
 have h1:=h.head_lt;have hlt:q<1000000000:=by
  rcases qaT q 1000000000 with h2 | h2
  ·exact h2
  ·have:1000000000*top v n<=q*top v n:=qa7 _ h2;rw [qaB,qau (top v n)] at h1;omega
 refine⟨hlt,h.done hq hlt ?_⟩;have h3:q*v.getD (n-2) 0<=q*1000000000:=qaR _ (qao (h.dv _));have h4:q*1000000000<=r*1000000000:=qa7 _ (qaj (qao hlt) hr);exact qaj h3 (qaj h4 (Nat.le_add_right _ _))
end Est
theorem qf6 {t s:Nat} (ht:0<t) (ht2:t<1000000000) (hs:1000000000 / (t+1)=s):0<s/\s<=500000000/\(t+1)*s<=1000000000/\1000000000<=2*(t*s)+1:=by
 have h1:(t+1)*s<=1000000000:=by rw [<-hs];exact Nat.mul_div_le _ _
 have h0:0<s:=by rw [<-hs];exact Nat.div_pos (by omega) (by omega)
 have h2:1000000000<(t+1)*(s+1):=by
  rw [<-hs,qau];exact Nat.lt_mul_of_div_lt (Nat.lt_succ_self _) (by omega)
 have h3:s<=500000000:=by
  have:2*s<=(t+1)*s:=qa7 _ (by omega);omega
 refine⟨h0,h3,h1,?_⟩
 by_cases hb:1000000000<=2*t+1
 ·have:t*1<=t*s:=qaR _ h0;omega
 ·obtain⟨d,hd⟩:∃d,1000000000=2*t+1+d:=⟨1000000000-(2*t+1),by omega⟩;obtain⟨p,rfl⟩:∃p,t=p+1:=⟨t-1,by omega⟩;have h4:1000000000+1<=(p+1+1)*(s+1):=h2;have h5:(p+1)*(1000000000+1)<=(p+1)*((p+1+1)*(s+1)):=qaR _ h4;refine Nat.le_of_mul_le_mul_left (c:=p+1+1) ?_ (by omega);have e1:(p+1)*((p+1+1)*(s+1))=(p+1+1)*((p+1)*s)+(p+1+1)*(p+1):=by
   rw [qbv,qaX (p+1),Nat.mul_one,qaX]
  have e2:(p+1+1)*(2*((p+1)*s)+1)=2*((p+1+1)*((p+1)*s))+(p+1+1):=by
   rw [qaX,Nat.mul_one,qbv]
  rw [e2];rw [e1] at h5;have e3:(p+1+1)*(p+1)=p*p+3*p+2:=by
   simp only [qaB,qaX,Nat.mul_one,qbx];omega
  have e4:p*d+p*(2*p+3)=p*1000000000:=by rw [<-qaX];congr 1;omega
  have e5:p*(2*p+3)=2*(p*p)+3*p:=by rw [qaX,qbv,qau p 3]
  have e6:(p+1)*(1000000000+1)=p*(1000000000+1)+(1000000000+1):=by rw [qaB p 1,qbx]
  have e7:p*(1000000000+1)=p*1000000000+p:=by rw [qaX,Nat.mul_one]
  rw [e6,e7,e3] at h5;rw [e5] at e4;generalize (p+1+1)*((p+1)*s)=Z at *;generalize p*p=pp at *;clear e3 e5 e6 e7 h4 h2 h1 hs;omega
theorem qe1 {O V:List Nat} {n s:Nat} (hO:Dig O) (hl:O.length=n) (hn:2<=n) (nO:Nrm O) (hs:1000000000 / (O.getD (n-1) 0+1)=s) (hV:Dig V) (nV:Nrm V) (hv:mval V=mval O*s):V.length=n/\1000000000<=2*V.getD (n-1) 0+1:=by
 have ht:O.getD (n-1) 0≠0:=by rw [<-hl];exact nO.resolve_left (by omega)
 obtain⟨s0,s1,s2,s3⟩:=qf6 (qbe ht) (hO (n-1)) hs;have e:=qbV O (n-1);rw [show n-1+1=n by omega,<-hl,qbi,hl] at e;have hlow:=(hO.take (n-1)).lt;rw [qar,qaZ (by omega)] at hlow;generalize O.getD (n-1) 0=t at *;have hP:1000000000 ^ n=1000000000 ^ (n-1)*1000000000:=by rw [<-qaD];congr 1;omega
 have hup:mval V<1000000000 ^ n:=by
  rw [hv,e,hP];have h1:(mval (O.take (n-1))+1000000000 ^ (n-1)*t)*s<1000000000 ^ (n-1)*(t+1)*s:=by
   apply Nat.mul_lt_mul_of_pos_right ?_ s0;rw [qaX];omega
  have h2:1000000000 ^ (n-1)*(t+1)*s<=1000000000 ^ (n-1)*1000000000:=by
   rw [qav];exact qaR _ s2
  omega
 have hdown:1000000000 ^ (n-1)*(t*s)<=mval V:=by
  rw [hv,e,qaB,qav];omega
 have hlen1:=nV.len hup;have hlen2:n<=V.length:=by
  rcases qaT V.length n with h | h
  ·exfalso;have h1:=hV.lt;have h2:1000000000 ^ V.length<=1000000000 ^ (n-1):=qa3 (by decide) (by omega);have h3:1000000000 ^ (n-1)*1<=1000000000 ^ (n-1)*(t*s):=qaR _ (qbP (qbe ht) s0);omega
  ·exact h
 have hVl:V.length=n:=by omega
 refine⟨hVl,?_⟩;have eV:=qbV V (n-1);rw [show n-1+1=n by omega,<-hVl,qbi,hVl] at eV;have hlowV:=(hV.take (n-1)).lt;rw [qar,qaZ (by omega)] at hlowV;have:t*s<=V.getD (n-1) 0:=by
  have h1:1000000000 ^ (n-1)*(t*s)<1000000000 ^ (n-1)*(V.getD (n-1) 0+1):=by
   rw [qaX,Nat.mul_one];omega
  have:=Nat.lt_of_mul_lt_mul_left h1;omega
 omega
theorem qlu {x y s r Q:Nat} (hs:0<s) (h:Q*(y*s)+r=x*s) (hr:r<y*s):Q=x / y/\r / s=x % y:=by
 have hy:0<y:=by
  rcases qaK y with h0 | h0
  ·subst h0;omega
  ·exact h0
 have hdvd:s∣r:=by
  have h1:s∣Q*(y*s):=⟨Q*y,by rw [<-qav,qau]⟩;exact (Nat.dvd_add_right h1).1 (by rw [h];exact⟨x,qau _ _⟩)
 obtain⟨z,rfl⟩:=hdvd;rw [qaW _ hs];have hz:z<y:=by
  apply Nat.lt_of_mul_lt_mul_left (a:=s);rw [qau s y];exact hr
 have e:Q*y+z=x:=by
  apply Nat.eq_of_mul_eq_mul_right hs;rw [<-h,qaB,qav,qau s z]
 rw [<-e]
 constructor
 ·rw [qau Q y,Nat.mul_add_div hy,Nat.div_eq_of_lt hz];rfl
 ·rw [qau Q y,Nat.mul_add_mod,Nat.mod_eq_of_lt hz]
theorem qip {M O V:List Nat} {lm n s:Nat} (hM:Dig M) (hlm:M.length=lm) (hl:O.length=n) (hn:0<n) (nO:Nrm O) (hs:0<s) (hle:n<=lm) (hv:mval V=mval O*s):mval M*s<1000000000 ^ (lm+1-n)*mval V:=by
 have h1:=nO.ge (by omega);rw [hl] at h1;have h2:=hM.lt;rw [hlm] at h2;have e:1000000000 ^ lm=1000000000 ^ (lm+1-n)*1000000000 ^ (n-1):=by rw [<-Nat.pow_add];congr 1;omega
 rw [hv,<-qav];apply Nat.mul_lt_mul_of_pos_right ?_ hs;have:1000000000 ^ (lm+1-n)*1000000000 ^ (n-1)<=1000000000 ^ (lm+1-n)*mval O:=qaR _ h1;omega
